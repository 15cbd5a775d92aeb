/- Walks of functions that the law reaches, and plain laws, part 9 of 21: lemmas for the proof in the last text; no condition. Shortened by program. -/
import Derived.BigRegion
import Derived.Deep.DeepCutAuto
import Derived.Carry
import Derived.Test.YtepelooebggliaaGreatDoorSu0
import Derived.Test.YtepelooebggliaaGreatDoorSu1
import Derived.Test.YtepelooebggliaaGreatDoorSu2
import Derived.Test.YtepelooebggliaaGreatDoorSu3
import Derived.Test.YtepelooebggliaaGreatDoorSu7
open List renaming replicate->A_,getD_eq_getElem?_getD->B_,getElem?_eq_some_iff->C_,getElem?_toArray->D_,getElem?_map->E_,mem_append->F_,pairwise_iff_getElem->G_,length_set->H_,mem_iff_getElem?->I_,mem_cons_of_mem->J_,map_set->K_,take_of_length_le->L_,map_replicate->M_
open Go.Proofs.Tryz renaming prog->N_,underlying239->O_,underlying26->Pa,results191->Pb
open Go renaming World->Pc,Value->Pd,Calls->Pe
open Exists renaming intro->Pf
open Go.RowKit renaming Hid->Pg
open Int renaming toNat_natCast->Ph,le_refl->Pj
open Classical renaming byContradiction->Pk
open Array renaming getElem?_eq_some_iff->Pm
open Option.some renaming inj->Pn
open Nat renaming lt_of_lt_of_le->Po,mul_le_mul->Pp,le_trans->Pq
open Go.IntKind renaming signed->Pr,wrap->Ps,bits->Pt
set_option maxHeartbeats 16000000
set_option maxRecDepth 100000
set_option linter.unusedVariables false
set_option linter.unusedSimpArgs false
namespace Go.Proofs.YtepelooebggliaaGreatDoor
open Go.RowKit
theorem xK (X B N:Nat) (K:Nat->Prop) (ss:List Sc) (gs:List Bool) (ds:List Int) (hops settles:Int) (B4:Pd) (x:Sc) (i:Nat) (si:Sc) (w:Pc) (h:Core w X B K N ss gs ds hops settles B4) (hx:inN N x) (hN:N<=1000) (hl:ss.length<=100000)
  (hi:atF ss x.from' x.to'=some i) (lW:ss[i]? = some si) (hw:si.w<=x.w) :
  Pe N_ 313 #[pt X,scV x] w λ e w'=>e=.returned (.tuple #[])/\Core w' X B K N ss gs ds hops settles B4/\Ac w w':=by
 obtain⟨O,G,D,M,sv,vs,n,h⟩:=h
 obtain⟨⟨p,hp⟩,q,hq⟩:(∃ p:Nat,x.from'=(p:Int))/\∃ q:Nat,x.to'=(q:Int):=by
  unfold inN at hx;exact⟨⟨x.from'.toNat,by omega⟩,x.to'.toNat,by omega⟩
 obtain⟨As,cs,rfl,yn,Et⟩:=h.cuts.row
 obtain⟨b,off,rfl,hb,_,_,s2,_⟩:=yn i si lW
 have D5:=I2 hi
 obtain⟨L,hL⟩:=zn (ss.length)
 rw[hL]at D5 hl Et
 have i0:(0:Int)<=(i:Int):=by omega
 have i1:(i:Int)<(L:Int):=by omega
 have i2:(L:Int)<=(cs:Int):=by omega
 have rR:p<N:=by unfold inN at hx;omega
 have hqN:q<N:=by unfold inN at hx;omega
 have LH:Pg (∀ w',Ac w w'->(Instr.lookup 349 (.map (some M)) (.agg #[i64 p,i64 q]) true).run N_ w'=.ok (.tuple #[i64 i,.bool true]) w'):=λ w' k=>by
  have:=F6.at (h.map.grew k) (p:Int) (q:Int) (by omega) (by omega);rw[<- hp,<-hq,hi]at this;rw[<- hp,<-hq];simpa using this
 have HC:Pg (∀ w',Ac w w'->w'.cell? ⟨X,2,none⟩=some (.map (some M))/\w'.cell? ⟨X,3,none⟩=some (.slice (some ⟨b,off,none⟩) L cs)/\w'.cell? ⟨b,off+i*6+2,none⟩=some (.int .u64 si.w)):=λ w' k=>by
  have a:=(h.blk.grew k).cell 2;have c:=(h.blk.grew k).cell 3;rw[hL]at c;simp at a c;exact⟨a,c,k.cell s2⟩
 have HH:=zh h
 obtain⟨f1,t1,w1x,e1,a1,b1⟩:=x
 simp only at hp hq hw
 subst hp
 subst hq
 obtain⟨swx,hswx⟩:=zn (si.w)
 rw[hswx]at hw HC
 clear h hx yn hb s2 hi lW hL hswx
 go_enter Tryz.func313,Tryz.ntmps313
 have kY:Ac w (w.alloc (.cells #[i64 p,i64 q,.int .u64 w1x,i64 e1,i64 a1,i64 b1] 150)):=(zr _ _).alloc _
 have bY:Am (w.alloc (.cells #[i64 p,i64 q,.int .u64 w1x,i64 e1,i64 a1,i64 b1] 150)) w.heap.size 150 #[i64 p,i64 q,.int .u64 w1x,i64 e1,i64 a1,i64 b1]:=zv _ _ _
 obtain⟨wY,hwY⟩:=zn (w.alloc (.cells #[i64 p,i64 q,.int .u64 w1x,i64 e1,i64 a1,i64 b1] 150))
 rw[hwY]at kY bY
 have y0:=bY.cell 0
 have y1:=bY.cell 1
 simp at y0 y1
 have kZ:Ac wY (wY.alloc (.cells #[i64 p,i64 q] 420)):=(zr _ _).alloc _
 have bZ:Am (wY.alloc (.cells #[i64 p,i64 q] 420)) wY.heap.size 420 #[i64 p,i64 q]:=zv _ _ _
 have xd:Pg (∀ w',Ac (wY.alloc (.cells #[i64 p,i64 q] 420)) w'->w'.cell? ⟨wY.heap.size,0,none⟩=some (i64 p)/\w'.cell? ⟨wY.heap.size,1,none⟩=some (i64 q)/\w'.cell? ⟨w.heap.size,2,none⟩=some (.int .u64 w1x)):=λ w' k=>by
  have a:=(bZ.grew k).cell 0;have c:=(bZ.grew k).cell 1;have d:=((bY.grew kZ).grew k).cell 2;simp at a c d;exact⟨a,c,d⟩
 have KW:=zh (kY.trans kZ)
 clear bZ bY kY kZ
 go_upto_region 2 with fail
 refine rG [] (λ _=>False) ?_
 refine pG 0 14 ?_
 refine pG 1 15 ?_
 refine pG 2 16 ?_
 refine tG 3 17 (y:=λ w' Ah=>by obtain⟨q0,q1,q2⟩:=HC.out w' (KW.out.trans ((zr _ _).drew.trans Ah));obtain⟨r0,r1,r2⟩:=xd.out w' ((zr _ _).drew.trans Ah);have IH:=LH.out w' (KW.out.trans ((zr _ _).drew.trans Ah));go_simp<;>with_reducible rfl) (h:=?_)
 refine tG 4 18 (y:=λ w' Ah=>by obtain⟨q0,q1,q2⟩:=HC.out w' (KW.out.trans ((zr _ _).drew.trans Ah));obtain⟨r0,r1,r2⟩:=xd.out w' ((zr _ _).drew.trans Ah);have IH:=LH.out w' (KW.out.trans ((zr _ _).drew.trans Ah));go_simp<;>with_reducible rfl) (h:=?_)
 refine tG 5 19 (y:=λ w' Ah=>by obtain⟨q0,q1,q2⟩:=HC.out w' (KW.out.trans ((zr _ _).drew.trans Ah));obtain⟨r0,r1,r2⟩:=xd.out w' ((zr _ _).drew.trans Ah);have IH:=LH.out w' (KW.out.trans ((zr _ _).drew.trans Ah));go_simp<;>with_reducible rfl) (h:=?_)
 refine pG 6 13 ?_
 refine pG 7 20 ?_
 refine pG 8 21 ?_
 refine pG 9 5 ?_
 refine pG 10 6 ?_
 refine dG ?_
 obtain⟨W3,Ni⟩:=zn ((wY.alloc (.cells #[i64 p,i64 q] 420)).drew)
 have K3:Pg (Ac (wY.alloc (.cells #[i64 p,i64 q] 420)) W3):=by show Ac _ _;rw[<- Ni];exact(zr _ _).drew
 rw[Ni]
 clear Ni
 go_upto_region 3 with fail
 refine rG [] (λ _=>False) ?_
 refine pG 0 22 ?_
 refine pG 1 23 ?_
 refine pG 2 24 ?_
 refine pG 3 25 ?_
 refine pG 4 26 ?_
 refine tG 5 27 (y:=λ w' Ah=>by obtain⟨q0,q1,q2⟩:=HC.out w' (KW.out.trans (K3.out.trans ((zr _ _).drew.trans Ah)));obtain⟨r0,r1,r2⟩:=xd.out w' (K3.out.trans ((zr _ _).drew.trans Ah));go_simp<;>with_reducible rfl) (h:=?_)
 refine pG 6 28 ?_
 refine pG 7 29 ?_
 refine pG 8 30 ?_
 refine tG 9 31 (y:=λ w' Ah=>by obtain⟨q0,q1,q2⟩:=HC.out w' (KW.out.trans (K3.out.trans ((zr _ _).drew.trans Ah)));obtain⟨r0,r1,r2⟩:=xd.out w' (K3.out.trans ((zr _ _).drew.trans Ah));go_simp<;>with_reducible rfl) (h:=?_)
 refine pG 10 32 ?_
 refine tG 11 33 (y:=λ w' Ah=>by obtain⟨q0,q1,q2⟩:=HC.out w' (KW.out.trans (K3.out.trans ((zr _ _).drew.trans Ah)));obtain⟨r0,r1,r2⟩:=xd.out w' (K3.out.trans ((zr _ _).drew.trans Ah));go_simp<;>with_reducible rfl) (h:=?_)
 refine pG 12 34 ?_
 refine pG 13 35 ?_
 refine dG ?_
 have HF:=zh (show Core W3.drew X B K N ss gs ds hops settles B4/\Ac w W3.drew from ⟨⟨O,G,D,M,_,vs,n,HH.out.grew (KW.out.trans (K3.out.trans (zr _ _).drew))⟩,KW.out.trans (K3.out.trans (zr _ _).drew)⟩)
 clear HC xd LH HH KW K3
 go_wp2_with fail
 exact zy (v:=.tuple #[]) (by simp[results,Tryz.results313]) rfl ⟨rfl,HF.out⟩
theorem gD {N:Nat} {ss:List Sc} (BF:∀ s∈ss,inN N s) (u:Int):(AS ss u).length<=N:=by
 have h:=CT N ((AS ss u).map (·.1)) (by
  have:=ER ss u;rw[List.Nodup,List.pairwise_map];exact this) (λ p hp=>by
  obtain⟨a,ha,rfl⟩:=List.mem_map.1 hp;exact(Ej BF (p:=u) (q:=a.1) (a:=a.2) ha).2)
 simpa using h
theorem xJ {N:Nat} {ss:List Sc} {x:Sc} (BF:∀ s∈ss,inN N s) (hx:inN N x):∀ s∈DM ss x,inN N s:=λ s hs=>by
 rcases FU hs with h | rfl
 ·exact BF s h
 ·exact hx
theorem fp (X B N:Nat) (K:Nat->Prop) (ss:List Sc) (gs:List Bool) (ds:List Int) (hops settles:Int) (B4:Pd) (x:Sc) (w:Pc) (h:Core w X B K N ss gs ds hops settles B4) (hx:inN N x) (BF:∀ s∈ss,inN N s) (hN:N<=30) (hl:ss.length<=100000) (hK:∀ j,K j->j<w.heap.size) (hB:B<=w.heap.size) :
  Pe N_ 313 #[pt X,scV x] w λ e w'=>e=.returned (.tuple #[])/\Core w' X B K N (DM ss x) gs ds hops settles B4/\Kept (CK B K) w w':=by
 rcases CZ ss x with ⟨e,b,hb,hm⟩ | ⟨e,Cx⟩
 ·obtain⟨i,s,hi,hs,rfl⟩:=(DF ss _ _ _).1 hm;refine(xK X B N K ss gs ds hops settles B4 x i s w h hx (by omega) hl hi hs hb).mono ?_;rintro r w' ⟨rfl,h1,h2⟩;rw[e];exact⟨rfl,h1,Ac.kept h2⟩
 ·exact sy X B N K ss gs ds hops settles B4 x w h hx (by omega) hl (by have:=gD BF x.from';omega) hK hB e (λ i si hi lW=>Cx _ ((DF ss _ _ _).2 ⟨i,si,hi,lW,rfl⟩))
theorem Bf.netW {w:Pc} {X B:Nat} {K:Nat->Prop} {N:Nat} {mf:Int×Int->Option Nat} {ss:List Sc} {gs:List Bool} {ds:List Int} {hops settles:Int} {B4:Pd} {O G D M:Nat} {sv:Pd} {vs:List Pd} {n:Nat}
  (h:Bf w X B K N mf (λ i=>AS ss (i:Int)) ss gs ds hops settles B4 O G D M sv vs n) (BF:∀ s∈ss,inN N s) (zG:∀ s∈ss,1<=s.w/\s.w<=562949953421312) (hN:N<=30):Fy w (some ⟨O,0,none⟩) (some ⟨G,0,none⟩) N N N ss gs :=
 ⟨h.net,h.gones,h.glen,BF,zG,λ u _=>Pq (gD BF u) hN,zl _,zl _,hN,λ a ha=>by cases ha;exact h.gone.lt⟩
theorem Ka (A AG Rk:Option Addr) (cA cG N v lr cr:Nat) (ss:List Sc) (gs:List Bool) (hops settles:Int) (w:Pc) (h:Fy w A AG cA cG N ss gs) (hv:v<N) :
  Pe N_ 384 #[.agg #[.slice A N cA,.slice AG N cG],i64 v,.agg #[i64 hops,i64 settles,.slice Rk lr cr]] w λ e w'=>∃ z,e=.returned (i64 z)/\Ac w w':=by
 have bN:Am (w.alloc (.cells #[.slice A N cA,.slice AG N cG] 348)) w.heap.size 348 #[.slice A N cA,.slice AG N cG]:=zv _ _ _
 obtain⟨w1,AQ,g1⟩:=zg w (.cells #[.slice A N cA,.slice AG N cG] 348)
 have s1:w1.heap.size=w.heap.size+1:=by rw[<- AQ];simp
 rw[AQ]at bN
 have bO:Am (w1.alloc (.cells #[i64 hops,i64 settles,.slice Rk lr cr] 70)) (w.heap.size+1) 70 #[i64 hops,i64 settles,.slice Rk lr cr]:=by rw[<- s1];exact zv _ _ _
 have g12:Ac w1 (w1.alloc (.cells #[i64 hops,i64 settles,.slice Rk lr cr] 70)):=(zr _ _).alloc _
 obtain⟨w2,BM⟩:=zn (w1.alloc (.cells #[i64 hops,i64 settles,.slice Rk lr cr] 70))
 rw[BM]at bO g12
 have H2:=DS (bN.grew g12) bO (g1.trans g12) (h.grew (g1.trans g12))
 have HK:=zh (af A AG Rk cA cG N v lr cr ss gs hops settles w2 H2.out.2.2.2 hv)
 have n0:=H2.out.1.cell 0
 have n1:=H2.out.1.cell 1
 have o0:=H2.out.2.1.cell 0
 have o1:=H2.out.2.1.cell 1
 have o2:=H2.out.2.1.cell 2
 simp at n0 n1 o0 o1 o2
 clear bN bO g1 g12 h
 go_enter Tryz.func384,Tryz.ntmps384
 go_wp2_with fail
 refine HK.out.mono ?_
 rintro e w3 ⟨v1,v2,l,of,rfl,CQ,Cr,_,g3⟩
 obtain⟨A1,c1,rfl,_,_⟩:=CQ.row
 obtain⟨n,hn⟩:=zn (l.length)
 rw[hn]
 have H3:=BP (H2.out.2.2.1.trans g3) (H2.out.2.2.2.grew g3)
 obtain⟨n30,n31⟩:=CE ((H2.out.1.grew g3))
 have HL:=zh (H3.out.2.lightest v hv)
 clear HK H2 CQ Cr g3 AQ BM s1 n0 n1 o0 o1 o2 hn
 go_wp2_with fail
 refine HL.out.mono ?_
 rintro e w4 ⟨rfl,⟨m1,Mv⟩,⟨m2,G7⟩,g4⟩
 obtain⟨z1,_,jC⟩:=BG.len Mv O_ 3
 obtain⟨z2,_,oB⟩:=BG.len G7 O_ 3
 have HF:Pg (Ac w w4):=H3.out.1.trans g4
 obtain⟨M1,fJ⟩:=zn (w3.heap.size+2)
 obtain⟨M2,OP⟩:=zn (w3.heap.size+3)
 rw[fJ]at jC ⊢
 rw[OP]at oB ⊢
 clear HL H3 Mv G7 g4 n30 n31 fJ OP
 go_wp2_with fail
 go_ret
 exact⟨_,rfl,HF.out⟩
theorem gi (X B N v lr cr:Nat) (Rk:Option Addr) (KK:Nat->Prop) (ss:List Sc) (gs:List Bool) (ds:List Int) (hops settles:Int) (w:Pc) (h:Core w X B KK N ss gs ds hops settles (.slice Rk lr cr)) (BF:∀ s∈ss,inN N s) (zG:∀ s∈ss,1<=s.w/\s.w<=562949953421312) (hN:N<=30) (hv:v<N) :
  Pe N_ 315 #[pt X,i64 v] w λ e w'=>∃ z,e=.returned (u64 z)/\0<=z/\z<18446744073709551616/\Ac w w':=by
 obtain⟨O,G,D,M,sv,vs,n,h⟩:=h
 obtain⟨d,hd⟩:=zx (l:=ds) (i:=v) (by rw[h.dlen];exact hv)
 have v0:(0:Int)<=(v:Int):=by omega
 have v1:(v:Int)<(N:Int):=by omega
 have HC:Pg (∀ w',Ac w w'->w'.cell? ⟨X,0,none⟩=some (.slice (some ⟨O,0,none⟩) N N)/\w'.cell? ⟨X,1,none⟩=some (.slice (some ⟨G,0,none⟩) N N)/\w'.cell? ⟨X,4,none⟩=some (i64 hops)/\w'.cell? ⟨X,5,none⟩=some (i64 settles)/\w'.cell? ⟨X,6,none⟩=some (.slice Rk lr cr)/\w'.cell? ⟨X,7,none⟩=some (.slice (some ⟨D,0,none⟩) N N)/\w'.cell? ⟨D,v,none⟩=some (i64 d)):=λ w' k=>by
  have hb:=h.blk.grew k;have x0:=hb.cell 0;have x1:=hb.cell 1;have x4:=hb.cell 4;have x5:=hb.cell 5;have x6:=hb.cell 6;have x7:=hb.cell 7;have y:=(h.deep.grew k).cell v;simp at x0 x1 x4 x5 x6 x7;rw[D_,E_,hd]at y;exact⟨x0,x1,x4,x5,x6,x7,y⟩
 have HD:=zh (Ka (some ⟨O,0,none⟩) (some ⟨G,0,none⟩) Rk N N N v lr cr ss gs hops settles w.drew ((h.netW BF zG hN).grew (zr (λ _=>False) w).drew) hv)
 clear h BF zG hd
 go_enter Tryz.func315,Tryz.ntmps315
 go_upto_region 1 with fail
 refine rG [] (λ _=>False) ?_
 refine pG 0 5 ?_
 refine pG 1 6 ?_
 refine pG 2 7 ?_
 refine tF 3 8 HC.out ((zr (λ _=>False) w).drew) ?_
 refine pG 4 9 ?_
 refine pG 5 10 ?_
 refine pG 6 11 ?_
 refine pG 7 12 ?_
 refine tF 8 13 HC.out ((zr (λ _=>False) w).drew) ?_
 refine pG 11 16 ?_
 refine pG 12 17 ?_
 refine pG 13 18 ?_
 refine tF 14 19 HC.out ((zr (λ _=>False) w).drew) ?_
 refine pG 15 20 ?_
 refine pG 16 21 ?_
 refine tF 17 22 HC.out ((zr (λ _=>False) w).drew) ?_
 refine pG 18 23 ?_
 refine sG 9 14 (λ K Aj=>?_)
 go_simp
 refine HD.out.mono ?_
 rintro e wD ⟨zd,rfl,kD⟩
 show K _ _
 refine Aj (i64 zd) _ (λ _=>kD) ?_
 clear Aj
 simp only[sA]
 refine pG 10 15 ?_
 refine pG 19 24 ?_
 refine tF 20 25 HC.out (((zr (λ _=>False) w).drew.trans kD)) ?_
 refine pG 21 4 ?_
 refine dG ?_
 have HF:Pg (Ac w wD):=(zr (λ _=>False) w).drew.trans kD
 clear HC HD kD
 go_wp2_with fail
 go_ret
 exact⟨_,rfl,by simp[Ps,Pr,Pt];omega,by simp[Ps,Pr,Pt];omega,HF.out⟩
theorem np {N:Nat} {ss:List Sc} {g:Int->Bool} {v:Int} {l:List Ar} {of:List Int} (hk:EV ss g v N l of) (BF:∀ s∈ss,inN N s):∀ k,k<=l.length->(∀ s∈Bo ss v of l k,inN N s)/\(Bo ss v of l k).length<=ss.length+k:=by
 intro k;induction k with
 | zero=>exact λ _=>⟨BF,zl _⟩
 | succ k ih =>
  intro hle;obtain⟨h1,h2⟩:=ih (by omega);have hl:=hk.len;obtain⟨u,hu⟩:=zx (l:=of) (i:=k) (by omega);obtain⟨⟨q,y⟩,he⟩:∃ e,l[k]? = some e:=⟨_,zq (by omega)⟩;obtain⟨_,_,_,_,_,a,b,ha,hb,_⟩:=hk.is k u q y hu he;unfold Bo;refine⟨xJ h1 ?_,Pq (MY _ _) (by omega)⟩;rw[B_,hu,B_,he];have a1:=Ej BF ha;have b1:=Ej BF hb;unfold inN mkS;simp only[Option.getD_some];omega
theorem dt {P:Program} {o:Oper} {a:Act} {w:Pc} (t:TypeId) (parts:Array (Nat×Operand)) (ho:o.op=.build t parts) (cells:Array Pd) (hf:P.built t (parts.map λ (i,x)=>(i,a.eval x)).toList=some cells):(execOp a.eval o).run P w=.ok (.value (.agg cells)) w:=by
 unfold execOp;simp only[ho,Sem.run_bind,run_build w t _ cells hf,Result.andThen_ok];rfl
theorem qc (a b:Nat) (w:Pc):(Instr.index 421 (.agg #[.map (some a),.map (some b)]) (.int .i64 0)).run N_ w=.ok (.map (some a)) w:=by kernel_rfl
theorem qd (a b:Nat) (w:Pc):(Instr.index 421 (.agg #[.map (some a),.map (some b)]) (.int .i64 1)).run N_ w=.ok (.map (some b)) w:=by kernel_rfl
section
variable {w w':Pc} {X B:Nat} {K F:Nat->Prop} {N:Nat} {mf:Int×Int->Option Nat} {rf:Nat->List Ar} {ss:List Sc} {gs:List Bool} {ds:List Int} {hops settles:Int} {B4:Pd} {O G D M:Nat} {sv:Pd} {vs:List Pd} {n:Nat}
theorem Bf.toGone {u:Nat} (h:Bf w X B K N mf rf ss gs ds hops settles B4 O G D M sv vs n) (b:Bool):Bf (w.setCell ⟨G,u,none⟩ (.bool b)) X B K N mf rf ss (gs.set u b) ds hops settles B4 O G D M sv vs n:=by
 have k:Kept (·=G) w (w.setCell ⟨G,u,none⟩ (.bool b)):=(zr (·=G) w).setCell (p:=⟨G,u,none⟩) (.inl rfl) _;refine⟨h.blk.kept k (Ay h.blk h.gone (by decide)),h.outs.kept k (Ay h.outs h.gone (by decide)),h.len,λ i v hv=>(h.rows i v hv).kept k λ j hj e=>Ax (h.rows i v hv) h.gone (by decide) (by rw[hj,e]),h.apart,?_,by rw[H_];exact h.glen,h.deep.kept k (Ay h.deep h.gone (by decide)),h.dlen,h.map.kept k (h.map.noBlk h.gone),Kept.own k h.cuts λ j hj e=>Ax h.cuts h.gone (by decide) (by rw[hj,e]),h.base⟩;have:=h.gone.set u (.bool b);rw[K_];simpa using this
theorem Bf.toDeep {u:Nat} (h:Bf w X B K N mf rf ss gs ds hops settles B4 O G D M sv vs n) (z:Int):Bf (w.setCell ⟨D,u,none⟩ (i64 z)) X B K N mf rf ss gs (ds.set u z) hops settles B4 O G D M sv vs n:=by
 have k:Kept (·=D) w (w.setCell ⟨D,u,none⟩ (i64 z)):=(zr (·=D) w).setCell (p:=⟨D,u,none⟩) (.inl rfl) _;refine⟨h.blk.kept k (Ay h.blk h.deep (by decide)),h.outs.kept k (Ay h.outs h.deep (by decide)),h.len,λ i v hv=>(h.rows i v hv).kept k λ j hj e=>Ax (h.rows i v hv) h.deep (by decide) (by rw[hj,e]),h.apart,h.gone.kept k (Ay h.gone h.deep (by decide)),h.glen,?_,by rw[H_];exact h.dlen,h.map.kept k (h.map.noBlk h.deep),Kept.own k h.cuts λ j hj e=>Ax h.cuts h.deep (by decide) (by rw[hj,e]),h.base⟩;have:=h.deep.set u (i64 z);rw[K_];simpa using this
end
structure wX (w2:Pc) (X B:Nat) (KK:Nat->Prop) (N:Nat) (sc:List Sc) (gs:List Bool) (ds:List Int) (hops settles:Int) (B4:Pd) (wr:Pc):Prop where
 core:Core wr X B KK N sc gs ds hops settles B4
 kept:Kept (CK B KK) w2 wr
theorem Hm (X B N v lr cr:Nat) (K0:Nat->Prop) (Rk:Option Addr) (ss:List Sc) (gs:List Bool) (ds:List Int) (hops settles:Int) (w:Pc) (h:Core w X B K0 N ss gs ds hops settles (.slice Rk lr cr)) (BY:∀ j,K0 j->j<w.heap.size) (BF:∀ s∈ss,inN N s) (zG:∀ s∈ss,1<=s.w/\s.w<=562949953421312) (hN:N<=30) (hv:v<N) (hl:ss.length<=50000) :
  Pe N_ 250 #[pt X,i64 v] w λ e w'=>e=.returned (.tuple #[])/\∃ l of nA,EV ss (B8 gs) v N l of/\Core w' X B K0 N (Bo ss v of l l.length) (gs.set v true) nA hops settles (.slice Rk lr cr)/\Kept (CK B K0) w w':=by
 obtain⟨O,G,D,M,sv,vs,n,h⟩:=h
 have v0:(0:Int)<=(v:Int):=by omega
 have v1:(v:Int)<(N:Int):=by omega
 have HC:Pg (∀ w',Ac w w'->w'.cell? ⟨X,0,none⟩=some (.slice (some ⟨O,0,none⟩) N N)/\w'.cell? ⟨X,1,none⟩=some (.slice (some ⟨G,0,none⟩) N N)/\w'.cell? ⟨X,4,none⟩=some (i64 hops)/\w'.cell? ⟨X,5,none⟩=some (i64 settles)/\w'.cell? ⟨X,6,none⟩=some (.slice Rk lr cr)):=λ w' k=>by
  have hb:=h.blk.grew k;have x0:=hb.cell 0;have x1:=hb.cell 1;have x4:=hb.cell 4;have x5:=hb.cell 5;have x6:=hb.cell 6;simp at x0 x1 x4 x5 x6;exact⟨x0,x1,x4,x5,x6⟩
 have HN:=zh (λ (w':Pc) (k:Ac w w')=>(h.netW BF zG hN).grew k)
 have HK:=zh (af (some ⟨O,0,none⟩) (some ⟨G,0,none⟩) Rk N N N v lr cr ss gs hops settles w.drew (HN.out _ (zr (λ _=>False) w).drew) hv)
 have H0:=Gt ((⟨O,G,D,M,sv,vs,n,h⟩:Core w X B K0 N ss gs ds hops settles (.slice Rk lr cr))) BF (h.base X (by simp)) h.blk.lt BY
 clear h BF zG BY
 go_enter Tryz.func250,Tryz.ntmps250
 go_upto_region 0 with fail
 refine rG [] (λ _=>False) ?_
 refine pG 0 15 ?_
 refine pG 1 16 ?_
 refine pG 2 17 ?_
 refine tF 3 18 HC.out ((zr (λ _=>False) w).drew) ?_
 refine pG 4 19 ?_
 refine pG 5 20 ?_
 refine pG 6 21 ?_
 refine pG 7 22 ?_
 refine tF 8 23 HC.out ((zr (λ _=>False) w).drew) ?_
 refine sG 9 24 (λ K Aj=>?_)
 go_simp
 refine HK.out.mono ?_
 rintro e w1 ⟨k1,k2,l,of,rfl,CQ,Cr,Ba,kD⟩
 show K _ _
 refine Aj (.tuple #[k1,k2]) _ (λ _=>kD) ?_
 clear Aj
 simp only[sA]
 refine pG 10 14 ?_
 refine pG 11 25 ?_
 refine pG 12 26 ?_
 refine pG 13 4 ?_
 refine pG 14 5 ?_
 refine dG ?_
 have lZ:Ac w w1:=(zr (λ _=>False) w).drew.trans kD
 have HL:=zh ((HN.out _ lZ).lightest v hv)
 obtain⟨q0,q1,q2,q3,q4⟩:=HC.out w1 lZ
 obtain⟨A1,c1,Ly,Ob,Mr⟩:=CQ.row
 obtain⟨A2,c2,Lz,Kq⟩:=Cr.row
 obtain⟨n1,EI⟩:=zn (l.length)
 rw[Ba.len,EI]at Lz
 rw[EI]at Ly Mr
 have HO:=zh (show _/\_/\_/\_/\_/\_/\_/\_ from ⟨Ba,EI,Ob,Kq,(λ a (ha:A1=some a)=>CQ.lt a.block (by rw[Ly,ha];rfl)),(λ a (ha:A2=some a)=>Cr.lt a.block (by rw[Lz,ha];rfl)),lZ,kD.size⟩)
 subst Ly
 subst Lz
 have hn9:n1<=900:=by have:=Ba.few;have:N*N<=30*30:=Pp hN hN;omega
 clear Ob Kq CQ Cr Ba HK kD EI lZ
 go_wp2_with fail
 refine HL.out.mono ?_
 rintro e w2 ⟨rfl,Mv,G7,g2⟩
 obtain⟨KK,fG⟩:∃ K:Nat->Prop,(λ j=>K0 j\/(w.heap.size<=j/\j<w2.heap.size))=K:=⟨_,rfl⟩
 have JU:Pg (∀ j,KK j↔K0 j\/(w.heap.size<=j/\j<w2.heap.size)):=λ j=>by rw[<- fG]
 have gj:Ac w w2:=HO.out.2.2.2.2.2.2.1.trans g2
 have oc:=Core.guard H0.out.1 gj
 rw[fG]at oc
 have s12:=g2.size
 have hm1l:w1.heap.size+2<w2.heap.size:=by obtain⟨_,h⟩:=Mv;exact h.lt
 have hm2l:w1.heap.size+3<w2.heap.size:=by obtain⟨_,h⟩:=G7;exact h.lt
 have S0:Pg (wX w2 X B KK N (Bo ss v of l 0) gs ds hops settles (.slice Rk lr cr) w2):=⟨oc,zr _ _⟩
 have szw:w.heap.size<=w1.heap.size:=HO.out.2.2.2.2.2.2.1.size
 have HR:Pg (Gv w2 A1 l/\RowI w2 A2 of/\(∀ a,A1=some a->KK a.block)/\(∀ a,A2=some a->KK a.block)/\Ac w w2/\KK (w1.heap.size+2)/\KK (w1.heap.size+3)/\(∀ j,KK j->j<w2.heap.size)) :=
  ⟨HO.out.2.2.1.grew g2,HO.out.2.2.2.1.grew g2,λ a ha=>(JU.out _).2 (.inr (by have:=HO.out.2.2.2.2.1 a ha;have:=HO.out.2.2.2.2.2.2.2;simp at *;omega)),λ a ha=>(JU.out _).2 (.inr (by have:=HO.out.2.2.2.2.2.1 a ha;simp at *;omega)),gj,(JU.out _).2 (.inr (by omega)),(JU.out _).2 (.inr (by omega)),λ j hj=>by
   rcases(JU.out j).1 hj with h | h
   ·have:=H0.out.2.2.2.2 j h;have:=gj.size;omega
   ·exact h.2⟩
 have HM:=BP Mv G7
 obtain⟨M1,fJ⟩:=zn (w1.heap.size+2)
 obtain⟨M2,OP⟩:=zn (w1.heap.size+3)
 rw[fJ,OP]at HM HR
 rw[fJ,OP]
 clear Mv G7 g2 fG gj oc s12 hm1l hm2l szw HL HC HN fJ OP q0 q1 q2 q3 q4
 go_wp2_with fail
 go_loopw [38] (λ i wr=>∃ k:Nat,k<=n1/\i=.int .i64 k/\Pg (wX w2 X B KK N (Bo ss v of l k) gs ds hops settles (.slice Rk lr cr) wr)) (λ i _=>n1-(intOf i).toNat)
 case atStart=>exact⟨0,by omega,rfl,S0⟩
 case round =>
  clear S0;obtain⟨k,hk,rfl,hS⟩:=hrel;by_cases AH:k<n1
  ·as_aux_lemma =>
   have Ly:(k:Int)<(n1:Int):=(by omega);have Fj:(0:Int)<=(k:Int):=(by omega);have hc11:(n1:Int)<=(c1:Int):=(by omega);obtain⟨⟨q,y⟩,hx⟩:∃ x,l[k]? = some x:=⟨_,zq (by rw[HO.out.2.1];exact AH)⟩;obtain⟨p,hp⟩:=zx (l:=of) (i:=k) (by rw[HO.out.1.len,HO.out.2.1];exact AH);obtain⟨-,-,-,-,-,ea,eb,hea,heb,-⟩:=HO.out.1.is k p q y hp hx;have ip:=(Ej H0.out.2.1 hea).1;have iq:=(Ej H0.out.2.1 heb).2;obtain⟨p,rfl⟩:∃ z:Nat,p=(z:Int):=⟨p.toNat,by omega⟩;obtain⟨q,rfl⟩:∃ z:Nat,q=(z:Int):=⟨q.toNat,by omega⟩;obtain⟨b1,o1,rF,_,x0,x1⟩:=(HR.out.1.kept hS.out.kept (λ a ha h=>h.2 (HR.out.2.2.1 a ha))) k _ hx;obtain⟨b2,o2,N7,_,y0⟩:=(HR.out.2.1.kept hS.out.kept (λ a ha h=>h.2 (HR.out.2.2.2.1 a ha))) k _ hp;subst rF;subst N7;simp only at x0 x1;have kE:Ac wr (wr.alloc (.cells #[i64 q,(.int .u64 y)] 419)):=(zr _ _).alloc _;have bE:Am (wr.alloc (.cells #[i64 q,(.int .u64 y)] 419)) wr.heap.size 419 #[i64 q,(.int .u64 y)]:=zv _ _ _;obtain⟨wa,rT⟩:=zn (wr.alloc (.cells #[i64 q,(.int .u64 y)] 419));rw[rT]at kE bE;obtain⟨Z1,hZ1⟩:=zn (wr.heap.size);obtain⟨O',G',D',M',lp,vs',n',I4⟩:=hS.out.core;obtain⟨i1,jB⟩:=zn ((atF (Bo ss v of l k) p v).getD 0);obtain⟨i2,oy⟩:=zn ((atF (Bo ss v of l k) v q).getD 0);have ff:Pg (∀ w',Ac wa w'->w'.cell? ⟨X,2,none⟩=some (.map (some M'))/\w'.cell? ⟨b2,o2+k,none⟩=some (i64 p)/\w'.cell? ⟨Z1,0,none⟩=some (i64 q)/\w'.cell? ⟨Z1,1,none⟩=some ((.int .u64 y))/\(Instr.lookup 349 (.map (some M')) (.agg #[i64 p,i64 v]) false).run N_ w'=.ok (i64 (i1:Int)) w'/\(Instr.lookup 349 (.map (some M')) (.agg #[i64 v,i64 q]) false).run N_ w'=.ok (i64 (i2:Int)) w'):=λ w' g=>by
    have x2:=(I4.blk.grew (kE.trans g)).cell 2;have z0:=(bE.grew g).cell 0;have z1:=(bE.grew g).cell 1;rw[hZ1]at z0 z1;simp at x2 z0 z1;refine⟨x2,ze (kE.trans g) y0,z0,z1,?_,?_⟩
    ·rw[<- jB];exact F6.at1 (I4.map.grew (kE.trans g)) (p:Int) (v:Int) (by omega) (by omega)
    ·rw[<- oy];exact F6.at1 (I4.map.grew (kE.trans g)) (v:Int) (q:Int) (by omega) (by omega)
   have hci:=np HO.out.1 H0.out.2.1 k (by rw[HO.out.2.1];omega);have H5:=Gt (Core.grew hS.out.core kE) (hS.out.kept.trans (Ac.kept kE)) hci jB oy;have rD:Pg (Bo ss v of l (k+1)=DM (Bo ss v of l k) ⟨(p:Int),(q:Int),y,-1,(i1:Int),(i2:Int)⟩/\inN N ⟨(p:Int),(q:Int),y,-1,(i1:Int),(i2:Int)⟩):=by
    refine⟨?_,?_⟩
    ·rw[Bo,B_,hp,B_,hx,<-jB,<-oy];rfl
    ·unfold inN;simp only;omega
   obtain⟨a0,a1⟩:=CE bE;rw[hZ1]at a0 a1;clear hS hx hp hea heb I4 kE bE jB oy hci;go_upto_region 5 with fail;refine rG [30] (λ _=>False) ?_;refine pG 0 43 ?_;refine pG 1 44 ?_;refine pG 2 45 ?_;refine tF 3 46 ff.out ((zr (λ _=>False) wa).drew) ?_;refine pG 4 47 ?_;refine tF 5 48 ff.out ((zr (λ _=>False) wa).drew) ?_;refine pG 6 49 ?_;refine tF 7 50 ff.out ((zr (λ _=>False) wa).drew) ?_;refine pG 8 51 ?_;refine pG 9 52 ?_;refine pG 10 53 ?_;refine tF 11 54 ff.out ((zr (λ _=>False) wa).drew) ?_;refine pG 12 55 ?_;refine pG 13 56 ?_;refine pG 14 57 ?_;refine tF 15 58 ff.out ((zr (λ _=>False) wa).drew) ?_;refine pG 16 59 ?_;refine pG 17 60 ?_;refine tF 18 61 ff.out ((zr (λ _=>False) wa).drew) ?_;refine pG 19 62 ?_;refine pG 20 63 ?_;refine pG 21 64 ?_;refine tF 22 65 ff.out ((zr (λ _=>False) wa).drew) ?_;refine pG 23 66 ?_;refine pG 24 67 ?_;refine tF 25 68 ff.out ((zr (λ _=>False) wa).drew) ?_;refine pG 26 69 ?_;refine tF 27 70 ff.out ((zr (λ _=>False) wa).drew) ?_;refine AN 28 71 (v:=.agg #[i64 p,i64 q,(.int .u64 y),i64 (-1),i64 (i1:Int),i64 (i2:Int)]) rfl (by kernel_rfl) rfl (by rfl) (λ w'=>?_) ?_
   ·exact dt 150 _ rfl #[i64 p,i64 q,(.int .u64 y),i64 (-1),i64 (i1:Int),i64 (i2:Int)] (by as_aux_lemma=>kernel_rfl)
   simp only[sA];refine sG 29 10 (λ K Aj=>?_);go_simp;refine Aj _ _ (λ _=>(zr _ _).alloc _) ?_;clear Aj;simp only[sA];refine DH 30 (λ K Aj=>?_);have bZ:Am (wa.drew.alloc (.cells #[.int .i64 0,.int .i64 0,.int .u64 0,.int .i64 0,.int .i64 0,.int .i64 0] 150)) wa.heap.size 150 #[.int .i64 0,.int .i64 0,.int .u64 0,.int .i64 0,.int .i64 0,.int .i64 0]:=zv _ _ _;refine wp_store_row 150 (.tmp 10) (.tmp 71) rfl wa.heap.size #[i64 p,i64 q,(.int .u64 y),i64 (-1),i64 (i1:Int),i64 (i2:Int)] (by rfl) (by rfl) 150 _ bZ (by kernel_rfl) rfl (AF (by simp[Value.oneCell'])) ?_;show K _ _;refine Aj _ (λ h=>absurd (by simp) h) ?_;clear Aj;refine dG ?_;have sJ:Am ((wa.alloc (.cells #[.int .i64 0,.int .i64 0,.int .u64 0,.int .i64 0,.int .i64 0,.int .i64 0] 150)).drew.setRow wa.heap.size #[i64 p,i64 q,(.int .u64 y),i64 (-1),i64 (i1:Int),i64 (i2:Int)]) wa.heap.size 150 #[i64 p,i64 q,(.int .u64 y),i64 (-1),i64 (i1:Int),i64 (i2:Int)]:=bZ.setRow _;have kZ:Ac wa ((wa.alloc (.cells #[.int .i64 0,.int .i64 0,.int .u64 0,.int .i64 0,.int .i64 0,.int .i64 0] 150)).drew.setRow wa.heap.size #[i64 p,i64 q,(.int .u64 y),i64 (-1),i64 (i1:Int),i64 (i2:Int)]):=((zr (λ _=>False) wa).alloc _).drew.setRow (.inr (zl _)) _;obtain⟨W5,hW5⟩:=zn ((wa.alloc (.cells #[.int .i64 0,.int .i64 0,.int .u64 0,.int .i64 0,.int .i64 0,.int .i64 0] 150)).drew.setRow wa.heap.size #[i64 p,i64 q,(.int .u64 y),i64 (-1),i64 (i1:Int),i64 (i2:Int)]);rw[hW5]at sJ kZ ⊢;obtain⟨Z2,hZ2⟩:=zn (wa.heap.size);rw[hZ2]at sJ;have b0:=sJ.cell 0;have fv:=sJ.cell 1;have b2':=sJ.cell 2;have b3':=sJ.cell 3;have b4':=sJ.cell 4;have b5':=sJ.cell 5;simp at b0 fv b2' b3' b4' b5';rw[hZ2];have sz5:=(H5.out.2.1.trans (Ac.kept kZ)).size;have HA:=zh (fp X B N KK (Bo ss v of l k) gs ds hops settles (.slice Rk lr cr) ⟨(p:Int),(q:Int),y,-1,(i1:Int),(i2:Int)⟩ W5 (Core.grew H5.out.1 kZ) rD.out.2 H5.out.2.2.1.1 hN (by have:=H5.out.2.2.1.2;omega) (λ j hj=>by have:=HR.out.2.2.2.2.2.2.2 j hj;omega) (by have h1:=H0.out.2.2.1.1;have h2:=H0.out.2.2.2.1;have h3:=HR.out.2.2.2.2.1.size;omega));have H6:=BP rD.out.1 (H5.out.2.1.trans (Ac.kept kZ));clear bZ sJ kZ hW5 hZ2 ff H5 sz5 rD;go_wp2_with fail;refine HA.out.mono ?_;rintro e w6 ⟨rfl,hc6,k6⟩;have Ci:Pg (wX w2 X B KK N (Bo ss v of l (k+1)) gs ds hops settles (.slice Rk lr cr) w6):=⟨by rw[H6.out.1];exact hc6,H6.out.2.trans k6⟩;clear HA H6 hc6 k6;go_wp2_with fail;go_roundw
   case rel=>first | exact⟨k+1,by omega,by go_num,Ci⟩ | ((repeat apply Pf);exact⟨⟨k+1,by omega,by go_num,Ci⟩,rfl⟩)
   case measure=>simp[intOf];omega
  ·as_aux_lemma =>
   obtain rfl:k=n1:=(by omega);obtain⟨O',G',D',M',lp,vs',n',I4⟩:=hS.out.core;have x1:=I4.blk.cell 1;simp at x1;obtain⟨gv,hgv⟩:=zx (l:=gs) (i:=v) (by rw[I4.glen];exact hv);have y1:=I4.gone.cell v;rw[D_,E_,hgv]at y1;have y2:=I4.gone.frozen v;simp only[Option.map_some]at y1;have S1:Pg (wX w2 X B KK N (Bo ss v of l k) (gs.set v true) ds hops settles (.slice Rk lr cr) (wr.setCell ⟨G',v,none⟩ (.bool true))):=⟨⟨O',G',D',M',lp,vs',n',I4.toGone true⟩,hS.out.kept.setCell (p:=⟨G',v,none⟩) (.inl (I4.base G' (by simp))) _⟩;have HRG:Pg (∀ q a,(Fw (AS ss) (Bk gs) v N 0 q=some a\/By (AS ss) (Bk gs) v N 0 q=some a)->∃ z:Nat,q=(z:Int)/\z<N):=λ q a h=>by
    have:0<=q/\q<(N:Int):=by
     rcases h with h | h
     ·have:=((ig (ER ss) (λ x hx=>by
       cases ho:AS ss x with
       | nil=>rfl
       | cons b r=>exact absurd (Ej H0.out.2.1 (p:=x) (q:=b.1) (a:=b.2) (by rw[ho];simp)).1 hx) _ _).1 h).2.2
      exact(Ej H0.out.2.1 this).1
     ·have:=((Mm (ER ss) (by omega) _ _).1 h).2.2;exact(Ej H0.out.2.1 this).2
    exact⟨q.toNat,by omega,by omega⟩
   clear hS I4 hgv;go_wp2_with fail;obtain⟨wG,hwG⟩:=zn (wr.setCell ⟨G',v,none⟩ (.bool true));rw[hwG]at S1 ⊢;clear hwG x1 y1 y2;go_loopw [86] (λ i wq=>∃ (j:Nat) (dj:List Int),j<=2/\i=.int .i64 j/\Pg (wX w2 X B KK N (Bo ss v of l k) (gs.set v true) dj hops settles (.slice Rk lr cr) wq)) (λ i _=>2-(intOf i).toNat)
   case atStart=>exact⟨0,ds,by omega,rfl,S1⟩
   case round =>
    clear S1;obtain⟨j,dj,hj,rfl,hI⟩:=hrel;rcases(show j=0\/j=1\/j=2 by omega) with rfl | rfl | rfl
    ·as_aux_lemma =>
     obtain⟨nM,hmM⟩:=HM.out.1;have hix:=qc M1 M2;have yT:Cl wr M1 nM (Fw (AS ss) (Bk gs) v N 0):=hmM.kept hI.out.kept (λ h=>h.2 HR.out.2.2.2.2.2.1);obtain⟨nl,_,wI,Nn,dF,gI,sI⟩:=EK.start yT O_;obtain⟨I,hII⟩:=zn (wr.heap.size);rw[hII]at Nn dF;obtain⟨KI,yj⟩:∃ K:Nat->Prop,(λ j=>KK j\/(wr.heap.size<=j/\j<wI.heap.size))=K:=⟨_,rfl⟩;have yD:=Core.guard hI.out.core gI;rw[yj]at yD;have iw:Pg ((∀ j,KK j->KI j)/\KI I/\w2.heap.size<=I/\KI M1/\M1≠I):=by
      have h1:=hI.out.kept.size;have h2:=yT.lt;rw[<- yj];exact⟨λ j hj=>.inl hj,.inr (by omega),by omega,.inl HR.out.2.2.2.2.2.1,by omega⟩
     have S3:Pg (EK N_ 3 rW zW wI I M1 (Fw (AS ss) (Bk gs) v N 0) nl/\Core wI X B KI N (Bo ss v of l k) (gs.set v true) dj hops settles (.slice Rk lr cr)/\Kept (CK B KK) w2 wI):=⟨dF,yD,hI.out.kept.trans (Ac.kept gI)⟩;clear hI hmM yT dF gI sI hII yj yD;go_wp2_with fail;go_loopw [] (λ wq=>∃ (cnt:Nat) (dk:List Int),Pg (EK N_ 3 rW zW wq I M1 (Fw (AS ss) (Bk gs) v N 0) cnt/\Core wq X B KI N (Bo ss v of l k) (gs.set v true) dk hops settles (.slice Rk lr cr)/\Kept (CK B KK) w2 wq)) (λ wq=>Kz wq I M1)
     case atStart=>exact⟨nl,dj,S3⟩
     case round =>
      clear S3 Nn hix;obtain⟨cnt,dk,hT⟩:=hrel;have Oj:=zh hT.out.1.left;rcases hT.out.1.next 0 with ⟨h0,JK⟩ | ⟨ka,kb,wN,EZ,hab,JK,hR',oF,kI,_,hent⟩
      ·have Ci:Pg (wX w2 X B KK N (Bo ss v of l k) (gs.set v true) dk hops settles (.slice Rk lr cr) wr):=⟨Core.sub hT.out.2.1 iw.out.1,hT.out.2.2⟩;clear hT h0 Oj;go_wp2_with fail;go_roundw
       case rel=>first | exact⟨0+1,dk,by omega,by go_num,Ci⟩ | ((repeat apply Pf);exact⟨⟨0+1,dk,by omega,by go_num,Ci⟩,rfl⟩)
       case measure=>simp[intOf]
      ·obtain⟨u,rfl,wE⟩:=HRG.out ka kb (.inl hab);obtain⟨O',G',D',M',lp,vs',n',I4⟩:=hT.out.2.1;have IG:=I4.kept kI (λ j hj e=>by have e:j=I:=e;exact(I4.base j hj).2 (by rw[e];exact iw.out.2.1));obtain⟨du,hdu⟩:=zx (l:=dk) (i:=u) (by rw[I4.dlen];exact wE);obtain⟨dv,hdv⟩:=zx (l:=dk) (i:=v) (by rw[I4.dlen];exact hv);have Gu:Pg (∀ w',Ac wN w'->w'.cell? ⟨X,7,none⟩=some (.slice (some ⟨D',0,none⟩) N N)/\w'.cell? ⟨D',u,none⟩=some (i64 du)/\w'.cell? ⟨D',v,none⟩=some (i64 dv)):=λ w' g=>by
        have a:=(IG.blk.grew g).cell 7
        have b:=(IG.deep.grew g).cell u
        have c:=(IG.deep.grew g).cell v
        simp at a
        rw[D_,E_,hdu]at b
        rw[D_,E_,hdv]at c
        exact⟨a,b,c⟩
       have HFZ:Pg (wN.frozen? ⟨D',u,none⟩=false):=IG.deep.frozen u;have HS:Pg (∀ Z:Int,Pg (EK N_ 3 rW zW (wN.setCell ⟨D',u,none⟩ (i64 Z)).drew I M1 (Fw (AS ss) (Bk gs) v N 0) EZ/\Core (wN.setCell ⟨D',u,none⟩ (i64 Z)).drew X B KI N (Bo ss v of l k) (gs.set v true) (dk.set u Z) hops settles (.slice Rk lr cr)/\Kept (CK B KK) w2 (wN.setCell ⟨D',u,none⟩ (i64 Z)).drew)):=λ Z=>by
        have kD:Kept (·=D') wN (wN.setCell ⟨D',u,none⟩ (i64 Z)).drew:=((zr (·=D') wN).setCell (p:=⟨D',u,none⟩) (.inl rfl) _).drew
        have tn:=I4.base D' (by simp)
        refine⟨EK.kept hR' kD (λ e=>tn.2 (by rw[<- e];exact iw.out.2.1)) (λ e=>tn.2 (by rw[<- e];exact iw.out.2.2.2.1)),⟨O',G',D',M',lp,vs',n',(IG.toDeep Z).grew (zr (λ _=>False) _).drew⟩,(hT.out.2.2.then kI (λ i hi e=>by have e:i=I:=e;have:=iw.out.2.2.1;omega)).then kD (λ i hi e=>by
         have e:i=D':=e;rw[e];exact⟨tn.1,λ h=>tn.2 (iw.out.1 _ h)⟩)⟩
       have HMS:Pg (EZ<cnt/\∀ Z:Int,Kz (wN.setCell ⟨D',u,none⟩ (i64 Z)).drew I M1=EZ):=⟨oF,λ Z=>(HS.out Z).out.1.left⟩;have hu0:(0:Int)<=(u:Int):=(by omega);have jK:(u:Int)<(N:Int):=(by omega);clear hT hR' I4 IG hdu hdv kI hab oF;go_upto_region 15 with fail;refine rG [22] (λ _=>False) ?_;refine pG 0 95 ?_;refine pG 1 96 ?_;refine pG 2 97 ?_;refine tF 3 98 Gu.out ((zr (λ _=>False) wN).drew) ?_;refine pG 4 99 ?_;refine pG 5 100 ?_;refine pG 6 101 ?_;refine pG 7 102 ?_;refine tF 8 103 Gu.out ((zr (λ _=>False) wN).drew) ?_;refine pG 9 104 ?_;refine pG 10 105 ?_;refine tF 11 106 Gu.out ((zr (λ _=>False) wN).drew) ?_;refine pG 12 107 ?_;refine pG 13 108 ?_;refine pG 14 109 ?_;refine tF 15 110 Gu.out ((zr (λ _=>False) wN).drew) ?_;refine pG 16 111 ?_;refine pG 17 112 ?_;refine tF 18 113 Gu.out ((zr (λ _=>False) wN).drew) ?_;refine pG 19 114 ?_;refine pG 20 115 ?_;refine pG 21 116 ?_;refine DH 22 (λ K Aj=>?_);have q9:=Gu.out wN (zr _ _);obtain⟨q0,q1,q2⟩:=q9;have q3:=HFZ.out;go_simp;refine Aj _ (λ h=>absurd (by simp) h) ?_;clear Aj;refine dG ?_;clear Gu HFZ;go_wp2_with fail;go_roundw
       case rel=>first | exact⟨EZ,_,HS.out _⟩ | ((repeat apply Pf);exact⟨⟨EZ,_,HS.out _⟩,rfl⟩)
       case measure=>rw[HMS.out.2,Oj.out];exact HMS.out.1
    ·as_aux_lemma =>
     obtain⟨nM,hmM⟩:=HM.out.2;have hix:=qd M1 M2;have yT:Cl wr M2 nM (By (AS ss) (Bk gs) v N 0):=hmM.kept hI.out.kept (λ h=>h.2 HR.out.2.2.2.2.2.2.1);obtain⟨nl,_,wI,Nn,dF,gI,sI⟩:=EK.start yT O_;obtain⟨I,hII⟩:=zn (wr.heap.size);rw[hII]at Nn dF;obtain⟨KI,yj⟩:∃ K:Nat->Prop,(λ j=>KK j\/(wr.heap.size<=j/\j<wI.heap.size))=K:=⟨_,rfl⟩;have yD:=Core.guard hI.out.core gI;rw[yj]at yD;have iw:Pg ((∀ j,KK j->KI j)/\KI I/\w2.heap.size<=I/\KI M2/\M2≠I):=by
      have h1:=hI.out.kept.size;have h2:=yT.lt;rw[<- yj];exact⟨λ j hj=>.inl hj,.inr (by omega),by omega,.inl HR.out.2.2.2.2.2.2.1,by omega⟩
     have S3:Pg (EK N_ 3 rW zW wI I M2 (By (AS ss) (Bk gs) v N 0) nl/\Core wI X B KI N (Bo ss v of l k) (gs.set v true) dj hops settles (.slice Rk lr cr)/\Kept (CK B KK) w2 wI):=⟨dF,yD,hI.out.kept.trans (Ac.kept gI)⟩;clear hI hmM yT dF gI sI hII yj yD;go_wp2_with fail;go_loopw [] (λ wq=>∃ (cnt:Nat) (dk:List Int),Pg (EK N_ 3 rW zW wq I M2 (By (AS ss) (Bk gs) v N 0) cnt/\Core wq X B KI N (Bo ss v of l k) (gs.set v true) dk hops settles (.slice Rk lr cr)/\Kept (CK B KK) w2 wq)) (λ wq=>Kz wq I M2)
     case atStart=>exact⟨nl,dj,S3⟩
     case round =>
      clear S3 Nn hix;obtain⟨cnt,dk,hT⟩:=hrel;have Oj:=zh hT.out.1.left;rcases hT.out.1.next 0 with ⟨h0,JK⟩ | ⟨ka,kb,wN,EZ,hab,JK,hR',oF,kI,_,hent⟩
      ·have Ci:Pg (wX w2 X B KK N (Bo ss v of l k) (gs.set v true) dk hops settles (.slice Rk lr cr) wr):=⟨Core.sub hT.out.2.1 iw.out.1,hT.out.2.2⟩;clear hT h0 Oj;go_wp2_with fail;go_roundw
       case rel=>first | exact⟨1+1,dk,by omega,by go_num,Ci⟩ | ((repeat apply Pf);exact⟨⟨1+1,dk,by omega,by go_num,Ci⟩,rfl⟩)
       case measure=>simp[intOf]
      ·obtain⟨u,rfl,wE⟩:=HRG.out ka kb (.inr hab);obtain⟨O',G',D',M',lp,vs',n',I4⟩:=hT.out.2.1;have IG:=I4.kept kI (λ j hj e=>by have e:j=I:=e;exact(I4.base j hj).2 (by rw[e];exact iw.out.2.1));obtain⟨du,hdu⟩:=zx (l:=dk) (i:=u) (by rw[I4.dlen];exact wE);obtain⟨dv,hdv⟩:=zx (l:=dk) (i:=v) (by rw[I4.dlen];exact hv);have Gu:Pg (∀ w',Ac wN w'->w'.cell? ⟨X,7,none⟩=some (.slice (some ⟨D',0,none⟩) N N)/\w'.cell? ⟨D',u,none⟩=some (i64 du)/\w'.cell? ⟨D',v,none⟩=some (i64 dv)):=λ w' g=>by
        have a:=(IG.blk.grew g).cell 7
        have b:=(IG.deep.grew g).cell u
        have c:=(IG.deep.grew g).cell v
        simp at a
        rw[D_,E_,hdu]at b
        rw[D_,E_,hdv]at c
        exact⟨a,b,c⟩
       have HFZ:Pg (wN.frozen? ⟨D',u,none⟩=false):=IG.deep.frozen u;have HS:Pg (∀ Z:Int,Pg (EK N_ 3 rW zW (wN.setCell ⟨D',u,none⟩ (i64 Z)).drew I M2 (By (AS ss) (Bk gs) v N 0) EZ/\Core (wN.setCell ⟨D',u,none⟩ (i64 Z)).drew X B KI N (Bo ss v of l k) (gs.set v true) (dk.set u Z) hops settles (.slice Rk lr cr)/\Kept (CK B KK) w2 (wN.setCell ⟨D',u,none⟩ (i64 Z)).drew)):=λ Z=>by
        have kD:Kept (·=D') wN (wN.setCell ⟨D',u,none⟩ (i64 Z)).drew:=((zr (·=D') wN).setCell (p:=⟨D',u,none⟩) (.inl rfl) _).drew
        have tn:=I4.base D' (by simp)
        refine⟨EK.kept hR' kD (λ e=>tn.2 (by rw[<- e];exact iw.out.2.1)) (λ e=>tn.2 (by rw[<- e];exact iw.out.2.2.2.1)),⟨O',G',D',M',lp,vs',n',(IG.toDeep Z).grew (zr (λ _=>False) _).drew⟩,(hT.out.2.2.then kI (λ i hi e=>by have e:i=I:=e;have:=iw.out.2.2.1;omega)).then kD (λ i hi e=>by
         have e:i=D':=e;rw[e];exact⟨tn.1,λ h=>tn.2 (iw.out.1 _ h)⟩)⟩
       have HMS:Pg (EZ<cnt/\∀ Z:Int,Kz (wN.setCell ⟨D',u,none⟩ (i64 Z)).drew I M2=EZ):=⟨oF,λ Z=>(HS.out Z).out.1.left⟩;have hu0:(0:Int)<=(u:Int):=(by omega);have jK:(u:Int)<(N:Int):=(by omega);clear hT hR' I4 IG hdu hdv kI hab oF;go_upto_region 15 with fail;refine rG [22] (λ _=>False) ?_;refine pG 0 95 ?_;refine pG 1 96 ?_;refine pG 2 97 ?_;refine tF 3 98 Gu.out ((zr (λ _=>False) wN).drew) ?_;refine pG 4 99 ?_;refine pG 5 100 ?_;refine pG 6 101 ?_;refine pG 7 102 ?_;refine tF 8 103 Gu.out ((zr (λ _=>False) wN).drew) ?_;refine pG 9 104 ?_;refine pG 10 105 ?_;refine tF 11 106 Gu.out ((zr (λ _=>False) wN).drew) ?_;refine pG 12 107 ?_;refine pG 13 108 ?_;refine pG 14 109 ?_;refine tF 15 110 Gu.out ((zr (λ _=>False) wN).drew) ?_;refine pG 16 111 ?_;refine pG 17 112 ?_;refine tF 18 113 Gu.out ((zr (λ _=>False) wN).drew) ?_;refine pG 19 114 ?_;refine pG 20 115 ?_;refine pG 21 116 ?_;refine DH 22 (λ K Aj=>?_);have q9:=Gu.out wN (zr _ _);obtain⟨q0,q1,q2⟩:=q9;have q3:=HFZ.out;go_simp;refine Aj _ (λ h=>absurd (by simp) h) ?_;clear Aj;refine dG ?_;clear Gu HFZ;go_wp2_with fail;go_roundw
       case rel=>first | exact⟨EZ,_,HS.out _⟩ | ((repeat apply Pf);exact⟨⟨EZ,_,HS.out _⟩,rfl⟩)
       case measure=>rw[HMS.out.2,Oj.out];exact HMS.out.1
    ·as_aux_lemma =>
     have HF:Pg (EV ss (B8 gs) v N l of/\Core wr X B K0 N (Bo ss v of l l.length) (gs.set v true) dj hops settles (.slice Rk lr cr)/\Kept (CK B K0) w wr):=by
      refine⟨HO.out.1,by rw[HO.out.2.1];exact Core.sub hI.out.core (λ j h=>(JU.out j).2 (.inl h)),(Ac.kept HR.out.2.2.2.2.1).then hI.out.kept (λ i _ h=>⟨h.1,λ h2=>h.2 ((JU.out i).2 (.inl h2))⟩)⟩
     clear hI;go_wp2_with fail;go_end0;first | exact⟨rfl,_,_,_,HF.out⟩ | exact⟨rfl,_,_,HF.out.1,⟨_,HF.out.2.1⟩,HF.out.2.2⟩
theorem pf:(N_.info? 413).map (λ i=>(i.zero,i.size,i.bytes))=some (some (.slice none 0 0),1,24):=by kernel_rfl
theorem If (z:Pd) (n:Nat) (hz:z.cells=#[z]):madeCells z.cells n=(A_ n z).toArray:=by
 rw[hz];apply Array.ext
 ·simp[size_madeCells]
 ·intro k h1 h2;simp[madeCells,Nat.mod_one]
theorem Ig {w:Pc} {g:Nat} {o:Obj} (h:w.heap.size=g):(w.alloc o).heap[g]? = some o:=by rw[<- h];exact heap_alloc_new w o
theorem DE {w:Pc} {g:Nat} {o:Obj} (o':Obj) (h:w.heap[g]? = some o):(w.alloc o').heap[g]? = some o:=(Below.heap_alloc w o' g (Pm.1 h).1).trans h
theorem da (w:Pc) (X B N O G D M:Nat) (hops settles:Int) (B4:Pd) (bX:w.heap[X]? = some (.cells #[.slice (some ⟨O,0,none⟩) N N,.slice (some ⟨G,0,none⟩) N N,.map (some M),.slice none 0 0,i64 hops,i64 settles,B4,.slice (some ⟨D,0,none⟩) N N] 351))
  (bO:w.heap[O]? = some (.cells (madeCells #[Value.slice none 0 0] N) 413)) (bG:w.heap[G]? = some (.cells (madeCells #[Value.bool false] N) 4)) (bD:w.heap[D]? = some (.cells (madeCells #[i64 0] N) 3)) (bM:w.heap[M]? = some (.map #[] 0)) (hX:B<=X) (hO:B<=O) (hG:B<=G) (hD:B<=D) (hMB:B<=M) :
  Core w X B (λ _=>False) N [] (A_ N false) (A_ N 0) hops settles B4:=by
 have e1:=If (.slice none 0 0) N rfl
 have e2:=If (.bool false) N rfl
 have e3:=If (i64 0) N rfl
 simp only[Value.cells]at e1 e2 e3
 rw[e1]at bO
 rw[e2]at bG
 rw[e3]at bD
 have hM:F6 w M 0 (λ _=>none):=⟨λ _=>none,⟨#[],0,bM,by simp,⟨by simp,by simp,by simp,by simp,by simp,by simp⟩⟩,λ _=>rfl,λ _ _ h=>by cases h⟩
 refine⟨O,G,D,M,.slice none 0 0,A_ N (.slice none 0 0),0,bX,bO,by simp,λ i v hv=>?_,λ i j v u b hv _ hb _=>?_,by rw[M_];exact bG,by simp,by rw[M_];exact bD,by simp,hM,⟨rfl,.inl ⟨rfl,rfl⟩⟩,λ j hj=>⟨?_,λ h=>h⟩⟩
 ·have:=zm hv;simp at this;rw[this.2,KJ];exact CO.nil _ _
 ·have:=zm hv;simp at this;rw[this.2]at hb;cases hb
 ·rcases hj with rfl | rfl | rfl | rfl | rfl | hj | ⟨v,hv,hj⟩
  ·exact hX
  ·exact hO
  ·exact hG
  ·exact hD
  ·exact hMB
  ·cases hj
  ·simp at hv;rw[hv.2]at hj;cases hj
theorem Core.down {w:Pc} {X B B':Nat} {K:Nat->Prop} {N:Nat} {ss:List Sc} {gs:List Bool} {ds:List Int} {hops settles:Int} {B4:Pd} (h:Core w X B K N ss gs ds hops settles B4) (hB:B'<=B):Core w X B' K N ss gs ds hops settles B4:=by
 obtain⟨O,G,D,M,sv,vs,n,h⟩:=h;exact⟨O,G,D,M,sv,vs,n,{ h with rows:=λ i v hv=>Az (h.rows i v hv) hB,cuts:=Az h.cuts hB,base:=λ j hj=>⟨Pq hB (h.base j hj).1,(h.base j hj).2⟩ }⟩
theorem iU (A Rk:Option Addr) (c N lr cr:Nat) (es:List AB) (hops settles:Int) (w:Pc) (h:Bj w A es) (hr:Aq N es=0) (hl:es.length<=800) (hN:N<=30) :
  Pe N_ 247 #[.agg #[i64 N,.slice A es.length c],.agg #[i64 hops,i64 settles,.slice Rk lr cr]] w λ e w'=>∃ X,e=.returned (pt X)/\Core w' X w.heap.size (λ _=>False) N (EL es es.length) (A_ N false) (A_ N 0) hops settles (.slice Rk lr cr)/\Ac w w':=by
 obtain⟨i1,jB,ET,Jq,lU⟩:=info_parts pf
 obtain⟨i2,oy,cD,fU,hq3⟩:=info_parts IN
 obtain⟨i3,yJ,Ob,Kq,zj⟩:=info_parts info_int
 have Mv:=λ W=>run_make (P:=N_) W 346 413 i1 _ Tryz.underlying346 jB ET .i64 .i64 (N:Int) (N:Int) (by omega) (Pj _) (by rw[lU];omega) (by omega)
 have G7:=λ W=>run_make (P:=N_) W 259 4 i2 _ Tryz.underlying259 oy cD .i64 .i64 (N:Int) (N:Int) (by omega) (Pj _) (by rw[hq3];omega) (by omega)
 have yP:=λ W=>run_make (P:=N_) W 26 3 i3 _ Pa yJ Ob .i64 .i64 (N:Int) (N:Int) (by omega) (Pj _) (by rw[zj];omega) (by omega)
 simp only[Ph,Jq,fU,Kq,Nat.mul_one]at Mv G7 yP
 have JJ:=@run_makeMap N_
 clear jB ET Jq lU oy cD fU hq3 yJ Ob Kq zj
 have bN:Am (w.alloc (.cells #[i64 N,.slice A es.length c] 24)) w.heap.size 24 #[i64 N,.slice A es.length c]:=zv _ _ _
 obtain⟨w1,AQ,g1⟩:=zg w (.cells #[i64 N,.slice A es.length c] 24)
 have s1:w1.heap.size=w.heap.size+1:=by rw[<- AQ];simp
 rw[AQ]at bN
 have bO:Am (w1.alloc (.cells #[i64 hops,i64 settles,.slice Rk lr cr] 70)) (w.heap.size+1) 70 #[i64 hops,i64 settles,.slice Rk lr cr]:=by rw[<- s1];exact zv _ _ _
 have g12:Ac w1 (w1.alloc (.cells #[i64 hops,i64 settles,.slice Rk lr cr] 70)):=(zr _ _).alloc _
 obtain⟨w2,BM⟩:=zn (w1.alloc (.cells #[i64 hops,i64 settles,.slice Rk lr cr] 70))
 have s2:Pg (w2.heap.size=w.heap.size+2):=by show _=_;rw[<- BM];simp[s1]
 rw[BM]at bO g12
 have H2:=Gt (bN.grew g12) bO (g1.trans g12) (h.grew (g1.trans g12)) hr
 obtain⟨L,hL⟩:=zn (es.length)
 have HL:=zh hL
 rw[hL]at H2 hl ⊢
 rw[hL]at AQ
 clear bN bO g1 g12 h hr hL
 have a0:=H2.out.1
 have a1:=H2.out.2.1
 have k0:w2.cell? ⟨w.heap.size,0,none⟩=some (i64 N):=a0.cell 0
 have k1:∀ o,(w2.alloc o).cell? ⟨w.heap.size,0,none⟩=some (i64 N):=λ o=>(a0.alloc o).cell 0
 have k2:∀ o p,((w2.alloc o).alloc p).cell? ⟨w.heap.size,0,none⟩=some (i64 N):=λ o p=>((a0.alloc o).alloc p).cell 0
 have k3:∀ o p q,(((w2.alloc o).alloc p).alloc q).cell? ⟨w.heap.size,0,none⟩=some (i64 N):=λ o p q=>(((a0.alloc o).alloc p).alloc q).cell 0
 have k4:∀ o p q r,((((w2.alloc o).alloc p).alloc q).alloc r).cell? ⟨w.heap.size,0,none⟩=some (i64 N):=λ o p q r=>((((a0.alloc o).alloc p).alloc q).alloc r).cell 0
 have c0:w2.cell? ⟨w.heap.size+1,0,none⟩=some (i64 hops)/\w2.cell? ⟨w.heap.size+1,1,none⟩=some (i64 settles)/\w2.cell? ⟨w.heap.size+1,2,none⟩=some (.slice Rk lr cr):=⟨a1.cell 0,a1.cell 1,a1.cell 2⟩
 have c1:∀ o,(w2.alloc o).cell? ⟨w.heap.size+1,0,none⟩=some (i64 hops)/\(w2.alloc o).cell? ⟨w.heap.size+1,1,none⟩=some (i64 settles)/\(w2.alloc o).cell? ⟨w.heap.size+1,2,none⟩=some (.slice Rk lr cr):=λ o=>⟨(a1.alloc o).cell 0,(a1.alloc o).cell 1,(a1.alloc o).cell 2⟩
 have c2:∀ o p,((w2.alloc o).alloc p).cell? ⟨w.heap.size+1,0,none⟩=some (i64 hops)/\((w2.alloc o).alloc p).cell? ⟨w.heap.size+1,1,none⟩=some (i64 settles)/\((w2.alloc o).alloc p).cell? ⟨w.heap.size+1,2,none⟩=some (.slice Rk lr cr):=λ o p=>⟨((a1.alloc o).alloc p).cell 0,((a1.alloc o).alloc p).cell 1,((a1.alloc o).alloc p).cell 2⟩
 have c3:∀ o p q,(((w2.alloc o).alloc p).alloc q).cell? ⟨w.heap.size+1,0,none⟩=some (i64 hops)/\(((w2.alloc o).alloc p).alloc q).cell? ⟨w.heap.size+1,1,none⟩=some (i64 settles)/\(((w2.alloc o).alloc p).alloc q).cell? ⟨w.heap.size+1,2,none⟩=some (.slice Rk lr cr):=λ o p q=>⟨(((a1.alloc o).alloc p).alloc q).cell 0,(((a1.alloc o).alloc p).alloc q).cell 1,(((a1.alloc o).alloc p).alloc q).cell 2⟩
 have c4:∀ o p q r,((((w2.alloc o).alloc p).alloc q).alloc r).cell? ⟨w.heap.size+1,0,none⟩=some (i64 hops)/\((((w2.alloc o).alloc p).alloc q).alloc r).cell? ⟨w.heap.size+1,1,none⟩=some (i64 settles)/\((((w2.alloc o).alloc p).alloc q).alloc r).cell? ⟨w.heap.size+1,2,none⟩=some (.slice Rk lr cr):=λ o p q r=>⟨((((a1.alloc o).alloc p).alloc q).alloc r).cell 0,((((a1.alloc o).alloc p).alloc q).alloc r).cell 1,((((a1.alloc o).alloc p).alloc q).alloc r).cell 2⟩
 clear a0 a1
 go_enter Tryz.func247,Tryz.ntmps247
 go_upto_region 1 with fail
 go_cut [5] (λ s5 wx=>∃ X,s5=pt X/\Pg (Core wx X w2.heap.size (λ _=>False) N [] (A_ N false) (A_ N 0) hops settles (.slice Rk lr cr)/\Ac w2 wx))
 case first =>
  go_region;all_goals go_wp2_with fail
  all_goals go_meet
  all_goals
   refine⟨_,rfl,da _ _ _ _ _ _ _ _ _ _ _ (by exact Ig (by simp)) ?_ ?_ ?_ ?_ ?_ ?_ ?_ ?_ ?_,((((((zr (λ _=>False) w2).alloc _).alloc _).alloc _).alloc _).alloc _).drew⟩
   all_goals first
    | (have:=s2.out;omega)
    | exact DE _ (Ig (by simp))
    | exact DE _ (DE _ (Ig (by simp)))
    | exact DE _ (DE _ (DE _ (Ig (by simp))))
    | exact DE _ (DE _ (DE _ (DE _ (Ig (by simp)))))
 case rest =>
  obtain⟨X,rfl,hC⟩:=hcut;have bA:=H2.out.1.grew hC.out.2;have c1:=bA.cell 1;simp at c1;clear bA Mv G7 yP JJ k0 k1 k2 k3 k4 c0 c2 c3 c4 AQ BM;go_wp2_with fail;go_loopw [25] (λ i wr=>∃ k:Nat,k<=L/\i=.int .i64 k/\Pg (Core wr X w2.heap.size (λ _=>False) N (EL es k) (A_ N false) (A_ N 0) hops settles (.slice Rk lr cr)/\Ac w2 wr)) (λ i _=>L-(intOf i).toNat)
  case atStart=>exact⟨0,by omega,rfl,hC⟩
  case round =>
   clear hC c1;obtain⟨k,hk,rfl,hS⟩:=hrel;by_cases AH:k<L
   ·have k1:(k:Int)<(L:Int):=(by omega);have k0:(0:Int)<=(k:Int):=(by omega);obtain⟨⟨p,q,r⟩,hx⟩:∃ x,es[k]? = some x:=⟨_,zq (by rw[HL.out];exact AH)⟩;obtain⟨b,off,hA,_,e0,e1,e2⟩:=(H2.out.2.2.2.1.grew hS.out.2) k _ hx;subst hA;simp only at e0 e1 e2;have yA:=fw (N:Int) es k (by rw[HL.out];omega);have hEO:=Ch H2.out.2.2.2.2 (zm hx);have BF:∀ s∈EL es k,inN N s:=λ s hs=>JF H2.out.2.2.2.2 (yA.edge s hs);have kE:Ac wr (wr.alloc (.cells #[i64 p,i64 q,u64 r] 65)):=(zr _ _).alloc _;have bE:Am (wr.alloc (.cells #[i64 p,i64 q,u64 r] 65)) wr.heap.size 65 #[i64 p,i64 q,u64 r]:=zv _ _ _;obtain⟨wa,rT⟩:=zn (wr.alloc (.cells #[i64 p,i64 q,u64 r] 65));rw[rT]at kE bE;obtain⟨a0,a1,a2⟩:=mu bE;have HA:=zh (fp X w2.heap.size N (λ _=>False) (EL es k) _ _ hops settles _ ⟨p,q,r,(k:Int),-1,-1⟩ wa (hS.out.1.grew kE) (by
     unfold Mb at hEO
     unfold inN
     simp only at hEO ⊢
     omega) BF hN (by have:=yA.len;omega) (λ _ h=>h.elim) (by have:=(hS.out.2.trans kE).size;exact this))
    have HG:=zh (show _/\_ from ⟨hS.out.2.trans kE,(show EL es (k+1)=DM (EL es k) ⟨p,q,r,(k:Int),-1,-1⟩ by
     rw[EL,B_,hx];rfl)⟩)
    clear hx yA hEO BF kE bE hS;go_wp2_with (refine wpList_buildTo rfl 150 _ rfl (some 38) rfl #[i64 p,i64 q,.int .u64 r,i64 k,i64 (-1),i64 (-1)] (by as_aux_lemma=>kernel_rfl) ?_);refine HA.out.mono ?_;rintro e w3 ⟨rfl,hc3,k3⟩;have hS:Pg (Core w3 X w2.heap.size (λ _=>False) N (EL es (k+1)) (A_ N false) (A_ N 0) hops settles (.slice Rk lr cr)/\Ac w2 w3):=⟨by rw[HG.out.2];exact hc3,HG.out.1.then k3 (λ i hi h=>by have:=h.1;omega)⟩;clear HA HG hc3 k3 e0 e1 e2 a0 a1 a2;go_wp2_with fail;go_roundw
    case rel=>first | exact⟨k+1,by omega,by go_num,hS⟩ | ((repeat apply Pf);exact⟨⟨k+1,by omega,by go_num,hS⟩,rfl⟩)
    case measure=>simp[intOf];omega
   ·obtain rfl:k=L:=(by omega);have HF:Pg (Core wr X w.heap.size (λ _=>False) N (EL es k) (A_ N false) (A_ N 0) hops settles (.slice Rk lr cr)/\Ac w wr):=⟨hS.out.1.down (by have:=s2.out;omega),H2.out.2.2.1.trans hS.out.2⟩;clear hS;go_wp2_with fail;go_ret;exact⟨_,rfl,HF.out⟩
structure fk (rk inv:List Int):Prop where
 len:inv.length=rk.length
 at':∀ (i:Nat) x,rk[i]? = some x->inv[x.toNat]? = some (i:Int)
theorem fk.back {rk inv:List Int} (h:fk rk inv) (Ba:Bq rk) (hall:∀ j:Nat,j<rk.length->(j:Int)∈rk):Bq inv/\∀ (j:Nat) p,inv[j]? = some p->rk[p.toNat]? = some (j:Int):=by
 have key:∀ (j:Nat) p,inv[j]? = some p->∃ i:Nat,p=(i:Int)/\rk[i]? = some (j:Int):=λ j p hp=>by
  have hj:=(C_.1 hp).1;rw[h.len]at hj;obtain⟨i,hi⟩:=I_.1 (hall j hj);have h1:=h.at' i _ hi;rw[Ph,hp]at h1;exact⟨i,Pn h1,hi⟩
 refine⟨⟨λ x hx=>?_,?_⟩,λ j p hp=>?_⟩
 ·obtain⟨j,hj⟩:=I_.1 hx;obtain⟨i,rfl,hi⟩:=key j x hj;have:=(C_.1 hi).1;rw[h.len];omega
 ·rw[List.Nodup,G_];intro a b ha hb hab he;obtain⟨i,h1,h2⟩:=key a _ (zq ha);obtain⟨j,h3,h4⟩:=key b _ (zq hb);rw[he,h3]at h1;obtain rfl:j=i:=(by omega);rw[h2]at h4;have:=Pn h4;omega
 ·obtain⟨i,rfl,hi⟩:=key j p hp;rw[Ph];exact hi
theorem JX {n:Nat} {l:List Int} (hn:l.Nodup) (hr:∀ x∈l,0<=x/\x<(n:Int)) (hl:l.length=n) (j:Nat) (hj:j<n):(j:Int)∈l:=by
 apply Pk;intro h;have:=CT n ((j:Int)::l) (List.nodup_cons.2 ⟨h,hn⟩) (λ z hz=>by
  rcases List.mem_cons.1 hz with rfl | hz
  ·omega
  ·exact hr z hz)
 simp at this;omega
structure IvS (w:Pc) (g n k:Nat) (rk:List Int) (zs:List Int) (wr:Pc):Prop where
 blk:Am wr g 3 (zs.map i64).toArray
 len:zs.length=n
 at':∀ i:Nat,i<k->∀ x,rk[i]? = some x->zs[x.toNat]? = some (i:Int)
 kept:Ac w wr
theorem I7 (rk:List Int) (A:Option Addr) (c:Nat) (w:Pc) (h:RowI w A rk) (hl:rk.length<=100000) (Ba:Bq rk) :
  Pe N_ 248 #[.slice A rk.length c] w λ e w'=>∃ v inv,e=.returned v/\AO w' w.heap.size v inv/\fk rk inv/\Ac w w':=by
 obtain⟨i0,Mt,ET,Jq,lU⟩:=info_parts info_int
 have HR:=zh (Ck rk A c w h hl)
 obtain⟨n,hn⟩:=zn (rk.length)
 rw[hn]at HR hl ⊢
 have Hu:=λ W=>run_make (P:=N_) W 26 3 i0 _ Pa Mt ET .i64 .i64 (n:Int) (n:Int) (by omega) (Pj _) (by rw[lU];omega) (by omega)
 simp only[Ph,Jq,Nat.mul_one]at Hu
 have H0:=DK h Ba hn
 clear h Ba hn Mt ET Jq lU
 go_enter Tryz.func248,Tryz.ntmps248
 go_wp2_with fail
 refine HR.out.mono ?_
 rintro e w1 ⟨hs,g1⟩
 obtain⟨b,rfl,hb⟩:=hs
 have hbt:b=true:=hb.2 H0.out.2.1
 subst hbt
 have G1:=zh g1
 have bB:Am (w1.alloc (.cells (madeCells #[i64 0] n) 3)) w1.heap.size 3 ((A_ n (0:Int)).map i64).toArray:=by
  have e:=Hp.made_zero n;have b:=zv w1 3 (madeCells #[i64 0] n);unfold Am at b ⊢;rw[b];exact congrArg (λ x=>some (Obj.cells x 3 (0,0))) e
 have S0:Pg (IvS w w1.heap.size n 0 rk (A_ n 0) (w1.alloc (.cells (madeCells #[i64 0] n) 3))):=⟨bB,by simp,λ i hi=>by omega,g1.alloc _⟩
 obtain⟨w2,BM⟩:=zn (w1.alloc (.cells (madeCells #[i64 0] n) 3))
 rw[BM]at S0
 obtain⟨g,hg⟩:=zn (w1.heap.size)
 have HG:Pg (w.heap.size<=g):=by have:=G1.out.size;show _<=_;omega
 rw[hg]at S0
 clear HR hb g1 bB
 go_wp2_with fail
 clear BM hg Hu
 go_loopw [14] (λ i wr=>∃ (k:Nat) (zs:List Int),k<=n/\i=.int .i64 k/\Pg (IvS w g n k rk zs wr)) (λ i _=>n-(intOf i).toNat)
 case atStart=>exact⟨0,_,by omega,rfl,S0⟩
 case round =>
  clear S0;obtain⟨k,zs,hk,rfl,hS⟩:=hrel;by_cases AH:k<n
  ·have Ly:(k:Int)<(n:Int):=(by omega);have Fj:(0:Int)<=(k:Int):=(by omega);obtain⟨x,hx⟩:=zx (l:=rk) (i:=k) (by rw[H0.out.2.2];exact AH);obtain⟨b,off,hA,_,e0⟩:=(H0.out.1.grew hS.out.kept) k x hx;have hr:=H0.out.2.1.1 x (zm hx);rw[H0.out.2.2]at hr;obtain⟨x,rfl⟩:∃ z:Nat,x=(z:Int):=⟨x.toNat,by omega⟩;subst hA;obtain⟨z,hz⟩:=zx (l:=zs) (i:=x) (by rw[hS.out.len];omega);have y0:=hS.out.blk.cell x;have y1:=hS.out.blk.frozen x;rw[D_,E_,hz]at y0;simp only[Option.map_some]at y0;have AM:=hr.1;have AX:=hr.2;have Ci:Pg (IvS w g n (k+1) rk (zs.set x (k:Int)) (wr.setCell ⟨g,x,none⟩ (i64 k))):=by
    refine⟨?_,by rw[H_];exact hS.out.len,λ i hi y hy=>?_,hS.out.kept.setCell (.inr HG.out) _⟩
    ·have:=hS.out.blk.set x (i64 k);rw[K_];simpa using this
    ·by_cases fS:i=k
     ·subst fS;rw[hx]at hy;obtain rfl:=Pn hy;rw[Ph,List.getElem?_set_self (by rw[hS.out.len];omega)]
     ·have h1:=hS.out.at' i (by omega) y hy;rw[List.getElem?_set_ne ?_]
      ·exact h1
      ·intro e;have hyr:=H0.out.2.1.1 y (zm hy);have:y=(x:Int):=(by omega);subst this;obtain⟨p1,q1⟩:=C_.1 hx;obtain⟨p2,q2⟩:=C_.1 hy;have hp:=G_.1 H0.out.2.1.2;exact hp i k p2 p1 (by omega) (by rw[q1,q2])
   clear hS hz hx hr;go_wp2_with fail;go_roundw
   case rel=>first | exact⟨k+1,_,by omega,by go_num,Ci⟩ | ((repeat apply Pf);exact⟨⟨k+1,_,by omega,by go_num,Ci⟩,rfl⟩)
   case measure=>simp[intOf];omega
  ·obtain rfl:k=n:=(by omega);have HF:Pg (AO wr w.heap.size (.slice (some ⟨g,0,none⟩) k k) zs/\fk rk zs/\Ac w wr):=by
    refine⟨⟨by simp,.inr ⟨g,k,_,by rw[hS.out.len],HG.out,hS.out.blk,by rw[hS.out.len];exact zl _,by unfold maxLen;omega,by simp[hS.out.len],by simp only[List.drop_zero,List.extract_toArray,List.extract_eq_take_drop];simp[L_,hS.out.len]⟩⟩,⟨by rw[hS.out.len,H0.out.2.2],λ i x hx=>hS.out.at' i (by rw[<- H0.out.2.2];exact(C_.1 hx).1) x hx⟩,hS.out.kept⟩
   clear hS;go_wp2_with fail;go_ret;exact⟨_,_,rfl,HF.out⟩
theorem MB (x:Int) (w:Pc) (h:1<=x/\x<=1000):Pe N_ 123 #[i64 x] w λ e w'=>e=.returned (.bool true)/\w'=w:=by
 have h1:=h.1;have h2:=h.2;clear h;go_enter Tryz.func123,Tryz.ntmps123;go_wp2_with fail;go_ret;exact⟨rfl,rfl⟩
theorem Ii (hops settles:Int) (rk:List Int) (A:Option Addr) (c:Nat) (w:Pc) (h:RowI w A rk) (hl:rk.length<=100000) (Ba:Bq rk) (h1:1<=hops/\hops<=1000) (h2:1<=settles/\settles<=1000) :
  Pe N_ 80 #[.agg #[i64 hops,i64 settles,.slice A rk.length c]] w λ e w'=>e=.returned (.bool true)/\Ac w w':=by
 obtain⟨n,hn⟩:=zn (rk.length)
 have bB:Am (w.alloc (.cells #[i64 hops,i64 settles,.slice A n c] 70)) w.heap.size 70 #[i64 hops,i64 settles,.slice A n c]:=zv _ _ _
 have g1:Ac w (w.alloc (.cells #[i64 hops,i64 settles,.slice A n c] 70)):=(zr _ _).alloc _
 have HR:=zh (Ck rk A c _ (h.grew g1) hl)
 rw[hn]at HR hl ⊢
 obtain⟨b0,b1,b2⟩:=mu bB
 have rC:=BP Ba g1
 have h11:=h1.1
 have h12:=h1.2
 have h21:=h2.1
 have h22:=h2.2
 clear h Ba hn bB g1 h1 h2
 go_enter Tryz.func80,Tryz.ntmps80
 have HL1:=zh (MB hops _ ⟨h11,h12⟩:Pe _ _ _ (w.alloc (.cells #[i64 hops,i64 settles,.slice A n c] 70)) _)
 have HL2:=zh (MB settles _ ⟨h21,h22⟩:Pe _ _ _ (w.alloc (.cells #[i64 hops,i64 settles,.slice A n c] 70)) _)
 go_wp2_with fail
 refine HL1.out.mono ?_
 rintro e w1 ⟨rfl,rfl⟩
 go_wp2_with fail
 refine HL2.out.mono ?_
 rintro e w1 ⟨rfl,rfl⟩
 go_wp2_with fail
 refine HR.out.mono ?_
 rintro e w1 ⟨⟨b,rfl,hb⟩,g2⟩
 have hbt:b=true:=hb.2 rC.out.1
 subst hbt
 have HF:Pg (Ac w w1):=rC.out.2.trans g2
 clear HR hb g2 rC
 go_wp2_with fail
 go_ret
 exact⟨rfl,HF.out⟩
theorem Eo {P:Program} {a:Act} {w:Pc} {Q:Exit->Act->Pc->Prop} {c:Code} (J:Nat->Nat->Act->Pc->Prop)
  (first:c.wp P (Cs (λ l a w=>∃ n,J n l a w) Q) a w)
  (pass:∀ n l a w,J n l a w->∃ rest,findLabel c l=some rest/\rest.wp P (Cs (λ l' a' w'=>∃ m,m<n/\J m l' a' w') Q) a w):(Code.scope c).wp P Q a w:=by
 intro b k cs
 have key:∀ n l a w,J n l a w->∃ rest,findLabel c l=some rest/\∃ e a' w',Q e a' w'/\Arrives P (lone (b.at a (.code rest::.inScope c::k)) cs w) b k cs e a' w':=by
  intro n;induction n using Nat.strongRecOn with
  | _ n ih =>
   intro l a w hJ;obtain⟨rest,hr,hp⟩:=pass n l a w hJ;refine⟨rest,hr,?_⟩;obtain⟨e,a₁,w₁,hq,Dn⟩:=hp b (.inScope c::k) cs;cases e with
   | normal=>exact⟨.normal,a₁,w₁,hq,Steps.trans Dn (.one step_inScope)⟩
   | exit id=>exact⟨.exit id,a₁,w₁,hq,λ k' hk=>Dn k' (by simp[exitTo,hk])⟩
   | goto l' =>
    obtain⟨m,AH,hJ'⟩:=hq;obtain⟨pX,oV,e₂,a₂,w₂,zi,Kg⟩:=ih m AH l' a₁ w₁ hJ';exact⟨e₂,a₂,w₂,zi,.of_steps (Dn _ (by simp[gotoIn,oV])) Kg⟩
   | ret=>exact⟨_,a₁,w₁,hq,Dn⟩
   | panic ch=>exact⟨_,a₁,w₁,hq,Dn⟩
   | outgrown=>exact⟨_,a₁,w₁,hq,Dn⟩
 obtain⟨e,a₁,w₁,hq,Dn⟩:=first b (.inScope c::k) cs
 cases e with
 | normal=>exact⟨.normal,a₁,w₁,hq,.head step_scope (Steps.trans Dn (.one step_inScope))⟩
 | exit id=>exact⟨.exit id,a₁,w₁,hq,λ k' hk=>.head step_scope (Dn k' (by simp[exitTo,hk]))⟩
 | goto l' =>
  obtain⟨n,hJ⟩:=hq;obtain⟨pX,oV,e₂,a₂,w₂,zi,Kg⟩:=key n l' a₁ w₁ hJ;exact⟨e₂,a₂,w₂,zi,.of_steps (.head step_scope (Dn _ (by simp[gotoIn,oV]))) Kg⟩
 | ret=>exact⟨_,a₁,w₁,hq,.of_steps (.one step_scope) Dn⟩
 | panic ch=>exact⟨_,a₁,w₁,hq,.of_steps (.one step_scope) Dn⟩
 | outgrown=>exact⟨_,a₁,w₁,hq,.of_steps (.one step_scope) Dn⟩
theorem Gs {P:Program} {a0:Act} {w0:Pc} {Q:Exit->Act->Pc->Prop} {c R:Code} (hf:findLabel c 0=some (Code.seq .skip R)) (J:Nat->Act->Pc->Prop)
  (hbody:∀ n a w,J n a w->R.wp P (Cs (λ l a' w'=>l=0/\∃ m,m<n/\J m a' w') Q) a w)
  (enter:(∀ n a w,J n a w->R.wp P (Cs (λ l a' w'=>l=0/\∃ n,J n a' w') Q) a w)->c.wp P (Cs (λ l a' w'=>l=0/\∃ n,J n a' w') Q) a0 w0):(Code.scope c).wp P Q a0 w0:=by
 have mono:∀ (T T':Nat->Act->Pc->Prop),(∀ l a w,T l a w->T' l a w)->∀ e a w,Cs T Q e a w->Cs T' Q e a w:=λ T T' hT e a w he=>by
  cases e<;>first | exact he | exact hT _ _ _ he
 refine Eo (λ n l a w=>l=0/\J n a w) ?_ ?_
 ·refine Code.wp_mono (mono _ _ ?_) (enter λ n a w hJ=>Code.wp_mono (mono _ _ ?_) (hbody n a w hJ))
  ·rintro l a w ⟨h1,n,h2⟩;exact⟨n,h1,h2⟩
  ·rintro l a w ⟨h1,m,_,h2⟩;exact⟨h1,m,h2⟩
 ·rintro n l a w ⟨rfl,hJ⟩;refine⟨_,hf,wp_seq (wp_skip ?_)⟩;refine Code.wp_mono (mono _ _ ?_) (hbody n a w hJ);rintro l a w ⟨h1,m,h2,h3⟩;exact⟨m,h2,h1,h3⟩
def room (l:List Hp.Itm):Nat:=(l.map λ e=>(18446744073709551616-e.2).toNat).sum
theorem MG {l l':List Hp.Itm} (h:l'.Perm l):room l'=room l:=(h.map _).sum_nat
theorem kR (l:List Hp.Itm) (e:Hp.Itm):room (l++[e])=room l+(18446744073709551616-e.2).toNat:=by simp[room]
structure EJ (w0:Pc) (X B N H A:Nat) (es:List AB) (ss:List Sc) (gs:List Bool) (ds:List Int) (hops settles:Int) (B4 v ov:Pd) (Jd:List Hp.Itm) (out:List Int) (W:Nat->Prop) (wr:Pc):Prop where
 core:∃ K,Core wr X B K N ss gs ds hops settles B4/\(∀ j,Hp.HB H A v j->K j)/\(∀ j,ov.ownBlock=some j->K j)/\∀ j,K j->j<wr.heap.size
 hp:Hp.Hp wr H A N v Jd
 outs:AO wr B ov out
 ap:∀ j,ov.ownBlock=some j->j≠A
 stage:BR N es ss (B8 gs) out
 keys:∀ u:Nat,u<N->((∃ k,((u:Int),k)∈Jd)↔W u)
 rng:∀ e∈Jd,0<=e.2/\e.2<18446744073709551616
 kept:Kept (λ j=>B<=j) w0 wr
 hb:∀ j,Hp.HB H A v j->B<=j
section
variable {w0 wr w':Pc} {X B N H A:Nat} {es:List AB} {ss:List Sc} {gs:List Bool} {ds:List Int} {hops settles:Int} {B4 v v' ov:Pd} {Jd uh:List Hp.Itm} {out:List Int} {W W':Nat->Prop}
theorem Core.guardK {K F:Nat->Prop} (h:Core wr X B K N ss gs ds hops settles B4) (k:Kept F wr w') (hF:∀ j,F j->K j):Core w' X B (λ j=>K j\/(wr.heap.size<=j/\j<w'.heap.size)) N ss gs ds hops settles B4:=by
 obtain⟨O,G,D,M,sv,vs,n,h⟩:=h;refine⟨O,G,D,M,sv,vs,n,{ h.kept k (λ j hj hf=>(h.base j hj).2 (hF j hf)) with base:=λ j hj=>⟨(h.base j hj).1,λ hk=>?_⟩ }⟩;rcases hk with hk | hk
 ·exact(h.base j hj).2 hk
 ·have:=h.lt hj;omega
theorem EM (s:Hp.Hp wr H A N v Jd) {j:Nat} (h:Hp.HB H A v j):j<wr.heap.size:=by
 obtain⟨a,s,_⟩:=s;rcases h with rfl | rfl | h
 ·exact s.box.lt
 ·exact s.arr.lt
 ·exact(s.row.lt j h).2
theorem EJ.grew (h:EJ w0 X B N H A es ss gs ds hops settles B4 v ov Jd out W wr) (k:Ac wr w'):EJ w0 X B N H A es ss gs ds hops settles B4 v ov Jd out W w':=by
 obtain⟨K,c,k1,k2,k3⟩:=h.core;exact⟨⟨K,c.grew k,k1,k2,λ j hj=>Po (k3 j hj) k.size⟩,h.hp.grew k,h.outs.grew k,h.ap,h.stage,h.keys,h.rng,Kept.grew h.kept k,h.hb⟩
theorem EJ.turn (h:EJ w0 X B N H A es ss gs ds hops settles B4 v ov Jd out W wr) (t:Hp.Turn wr w' H A N v v' uh) (hk:∀ u:Nat,u<N->((∃ k,((u:Int),k)∈uh)↔W' u)) (hr:∀ e∈uh,0<=e.2/\e.2<18446744073709551616):EJ w0 X B N H A es ss gs ds hops settles B4 v' ov uh out W' w':=by
 obtain⟨K,c,k1,k2,k3⟩:=h.core;have hv:∀ j,Hp.HB H A v' j->Hp.HB H A v j\/(wr.heap.size<=j/\j<w'.heap.size):=λ j hj=>by
  have hl:=EM t.hp hj;rcases hj with rfl | rfl | hj
  ·exact .inl (.inl rfl)
  ·exact .inl (.inr (.inl rfl))
  ·rcases Nat.lt_or_ge j wr.heap.size with h1 | h1
   ·exact .inl (.inr (.inr (t.old j h1 hj)))
   ·exact .inr ⟨h1,hl⟩
 have sz:=t.kept.size;have jF:∀ j,ov.ownBlock=some j->¬ Hp.HB H A v j:=λ j hj hh=>by
  obtain⟨a,s,_⟩:=h.hp;rcases hh with rfl | rfl | hh
  ·exact Ax h.outs s.box (by decide) hj
  ·exact h.ap _ hj rfl
  ·exact Dt h.outs s.row (by decide) hj hh
 refine⟨⟨_,c.guardK t.kept k1,λ j hj=>?_,λ j hj=>.inl (k2 j hj),λ j hj=>?_⟩,t.hp,h.outs.kept t.kept jF,h.ap,h.stage,hk,hr,h.kept.then t.kept (λ i _ hi=>h.hb i hi),λ j hj=>?_⟩
 ·rcases hv j hj with h1 | h1
  ·exact .inl (k1 j h1)
  ·exact .inr h1
 ·rcases hj with h1 | h1
  ·exact Po (k3 j h1) sz
  ·exact h1.2
 ·rcases hv j hj with h1 | h1
  ·exact h.hb j h1
  ·have:=EM h.hp (j:=H) (.inl rfl);have:=h.hb H (.inl rfl);omega
theorem EJ.congr (h:EJ w0 X B N H A es ss gs ds hops settles B4 v ov Jd out W wr) (hW:∀ u,u<N->(W u↔W' u)):EJ w0 X B N H A es ss gs ds hops settles B4 v ov Jd out W' wr :=
 { h with keys:=λ u hu=>(h.keys u hu).trans (hW u hu) }
theorem BR.few {g:Int->Bool} (h:BR N es ss g out):out.length<=N:=CT N out h.going.nodup h.rng
theorem BR.light {g:Int->Bool} (h:BR N es ss g out) (hN:N<=12):∀ s∈ss,1<=s.w/\s.w<=562949953421312:=λ s hs=>by
 have h1:=h.wt s hs;have h2:=h.few;have hp:(2:Int) ^ out.length<=2 ^ 12:=by
  have:=Nat.pow_le_pow_right (n:=2) (by decide) (show out.length<=12 by omega);exact_mod_cast this
 omega
theorem BR.lenS {g:Int->Bool} (h:BR N es ss g out) (hN:N<=12) (ts:es.length<=800):ss.length<=50000:=by
 have h1:=h.len;have h2:=h.few;have h3:N*N*out.length<=144*12:=Pp (Pp hN hN) (by omega);omega
theorem KA:∀ (N:Nat) (out:List Int),(∀ u:Nat,u<N->(u:Int)∈out)->N<=out.length
 | 0,_,_=>Nat.zero_le _
 | N+1,out,h=>by
  have h1:=KA N (out.erase (N:Int)) (λ u hu=>(List.mem_erase_of_ne (by omega)).2 (h u (by omega)));have h2:=List.length_erase_of_mem (h N (by omega));have h3:=List.length_pos_of_mem (h N (by omega));omega
theorem EJ.went {w1 w2:Pc} {K:Nat->Prop} {ss2:List Sc} {gs2:List Bool} {ds2 zY:List Int} {ov2:Pd} (h:EJ w0 X B N H A es ss gs ds hops settles B4 v ov Jd out W wr) (q1:∀ j,Hp.HB H A v j->K j) (q2:∀ j,ov.ownBlock=some j->K j) (q3:∀ j,K j->j<wr.heap.size)
  (hc:Core w1 X B K N ss2 gs2 ds2 hops settles B4) (k1:Kept (CK B K) wr w1) (ho:AO w2 B ov2 zY) (k2:Kept (λ j=>ov.ownBlock=some j) w1 w2) (hb:∀ j,ov2.ownBlock=some j->ov.ownBlock=some j\/w1.heap.size<=j) (st:BR N es ss2 (B8 gs2) zY) (hk:∀ u:Nat,u<N->(W u↔W' u)):EJ w0 X B N H A es ss2 gs2 ds2 hops settles B4 v ov2 Jd zY W' w2:=by
 have s1:=k1.size
 have jF:∀ j,ov.ownBlock=some j->¬ Hp.HB H A v j:=λ j hj hh=>by
  obtain⟨a,s,_⟩:=h.hp;rcases hh with rfl | rfl | hh
  ·exact Ax h.outs s.box (by decide) hj
  ·exact h.ap _ hj rfl
  ·exact Dt h.outs s.row (by decide) hj hh
 refine⟨⟨_,hc.guardK k2 q2,λ j hj=>.inl (q1 j hj),λ j hj=>?_,λ j hj=>?_⟩,(h.hp.kept k1 λ j hj e=>e.2 (q1 j hj)).kept k2 λ j hj e=>jF j e hj,ho,λ j hj e=>?_,st,λ u hu=>(h.keys u hu).trans (hk u hu),h.rng,(h.kept.then k1 λ i _ hi=>hi.1).then k2 λ i _ hi=>?_,h.hb⟩
 ·rcases hb j hj with h1 | h1
  ·exact .inl (q2 j h1)
  ·exact .inr ⟨h1,(ho.lt j hj).2⟩
 ·rcases hj with h1 | h1
  ·have:=q3 j h1;have:=k2.size;omega
  ·exact h1.2
 ·rcases hb j hj with h1 | h1
  ·exact h.ap j h1 e
  ·have:=EM h.hp (j:=A) (.inr (.inl rfl));omega
 ·exact(h.outs.lt i hi).1
theorem uL (s:Hp.Hp wr H A N v Jd):Pe N_ 317 #[pt H] wr λ r w'=>∃ a b sm,r=.returned (.tuple #[i64 a,u64 b,.bool sm])/\Ac wr w'/\(sm=true->∃ f∈Jd,f.2=b):=by
 cases Jd with
 | nil =>
  refine(Hp.top2_none wr H A N v s).mono ?_;rintro r w' ⟨rfl,rfl⟩;exact⟨_,_,_,rfl,zr _ _,λ h=>by cases h⟩
 | cons e l =>
  refine(Hp.top2 wr H A N v _ s e (by simp) (Hw s rfl).1).mono ?_;rintro r w' ⟨rfl,g⟩;exact⟨_,_,_,rfl,g,λ _=>⟨e,by simp,rfl⟩⟩
end
theorem kt (X B N lr cr:Nat) (Rk:Option Addr) (es:List AB) (ss:List Sc) (gs:List Bool) (ds:List Int) (hops settles:Int) (w:Pc) (h:Core w X B (λ _=>False) N ss gs ds hops settles (.slice Rk lr cr)) (CW:BR N es ss (B8 gs) []) (hN:N<=12) (ts:es.length<=800) :
  Pe N_ 249 #[pt X] w λ e w'=>∃ ov out Ju OM nA,e=.returned ov/\AO w' B ov out/\BR N es Ju (B8 OM) out/\out.length=N/\Core w' X B (λ _=>False) N Ju OM nA hops settles (.slice Rk lr cr)/\Kept (λ j=>B<=j) w w':=by
 obtain⟨ii,hii,tw,tz,tA⟩:=info_parts info_int
 have hBw:B<=w.heap.size:=by obtain⟨O,G,D,M,sv,vs,n,h⟩:=h;have:=h.blk.lt;have:=(h.base X (by simp)).1;omega
 have x0:∀ w',Ac w w'->∃ O,w'.cell? ⟨X,0,none⟩=some (.slice (some ⟨O,0,none⟩) N N):=λ w' k=>by
  obtain⟨O,G,D,M,sv,vs,n,h⟩:=h;have:=(h.blk.grew k).cell 0;simp at this;exact⟨O,this⟩
 have HX0:=zh x0
 obtain⟨O1,x1⟩:=x0 w (zr _ _)
 have HN:=zh (Hp.new2 N w (by omega))
 have H0:=BP h CW
 clear h CW x0
 go_enter Tryz.func249,Tryz.ntmps249
 go_wp2_with fail
 obtain⟨H,hH⟩:=zn (w.heap.size+1)
 obtain⟨A,hA⟩:=zn (w.heap.size)
 rw[hH,hA]at HN
 have HHA:=BP hH hA
 refine Gs (hf:=rfl) (λ n a' w'=>∃ (v ov:Pd) (Jd:List Hp.Itm) (Ju:List Sc) (OM:List Bool) (nA out:List Int) (u4 u5 u6 u7 u8 u9 qt wR rY lA lB qu u16 qw qx qy qz qA qB qC qD qE qF qH qI qJ qK qL u32 qM qN qO qP qQ qR qS qT qU qV qW qX qY qZ re rh mb mc me mg mh mn mo mq mr u58 u59 u60 u61 u62 u63 u64 u65 u66 u67 u68 u69:Pd),a'={ tmps:=#[pt X,undef,ov,pt H,u4,u5,u6,u7,u8,u9,qt,wR,rY,lA,lB,qu,u16,qw,qx,qy,qz,qA,qB,qC,qD,qE,qF,qH,qI,qJ,qK,qL,u32,qM,qN,qO,qP,qQ,qR,qS,qT,qU,qV,qW,qX,qY,qZ,re,rh,mb,mc,me,mg,mh,mn,mo,mq,mr,u58,u59,u60,u61,u62,u63,u64,u65,u66,u67,u68,u69],defers:=[] }/\room Jd=n/\Pg (EJ w X B N H A es Ju OM nA hops settles (.slice Rk lr cr) v ov Jd out (λ u=>(u:Int)∉out) w')) ?_ ?_
 ·rintro n a0 wr ⟨v,ov,Jd,Ju,OM,nA,out,u4,u5,u6,u7,u8,u9,qt,wR,rY,lA,lB,qu,u16,qw,qx,qy,qz,qA,qB,qC,qD,qE,qF,qH,qI,qJ,qK,qL,u32,qM,qN,qO,qP,qQ,qR,qS,qT,qU,qV,qW,qX,qY,qZ,re,rh,mb,mc,me,mg,mh,mn,mo,mq,mr,u58,u59,u60,u61,u62,u63,u64,u65,u66,u67,u68,u69,rfl,hn,hS⟩;have hrm:=zh hn;clear hn x1 HN;rcases Jd with _ | ⟨e0,rest⟩
  ·as_aux_lemma =>
   have HP:=zh (Hp.pop_none wr H A N v hS.out.hp);have HF:Pg (AO wr B ov out/\BR N es Ju (B8 OM) out/\out.length=N/\Core wr X B (λ _=>False) N Ju OM nA hops settles (.slice Rk lr cr)/\Kept (λ j=>B<=j) w wr):=by
    refine⟨hS.out.outs,hS.out.stage,?_,?_,hS.out.kept⟩
    ·have h1:=hS.out.stage.few;have h2:=KA N out (λ u hu=>by
      apply Pk
      intro hn
      obtain⟨k,hk⟩:=(hS.out.keys u hu).2 hn
      simp at hk)
     omega
    ·obtain⟨K,c,_⟩:=hS.out.core;exact c.sub λ _ h=>h.elim
   clear hS H0 HX0;go_wp2_with fail;refine HP.out.mono ?_;rintro e w1 ⟨rfl,rfl⟩;clear HP;go_wp2_with fail;go_ret;exact⟨_,_,_,_,_,rfl,HF.out⟩
  ·have hl:=Hw hS.out.hp (e0:=e0) rfl;have JM:=hS.out.hp.rng e0 (by simp);obtain⟨p,hp⟩:∃ p:Nat,e0.1=(p:Int):=⟨e0.1.toNat,by omega⟩;have rR:p<N:=(by omega);have HP:=zh (Hp.pop_some wr H A N v (e0::rest) hS.out.hp 0 e0 rfl hl.1);have HE:=DK hp hl.2 rR;rw[hp]at HP;clear hl JM hp H0 HX0;go_wp2_with fail;refine HP.out.mono ?_;rintro e w1 ⟨rfl,v2,l2,GN,ht⟩;rw[show (e0::rest).eraseIdx 0=rest from rfl]at GN;have hpo:(p:Int)∉out:=(hS.out.keys p HE.out.2.2).1 ⟨e0.2,by rw[<- HE.out.1];simp⟩;have BZ:Pg (EJ w X B N H A es Ju OM nA hops settles (.slice Rk lr cr) v2 ov l2 out (λ u=>(u:Int)∉out/\u≠p) w1):=hS.out.turn ht (λ u hu=>by
    have h1:=hS.out.keys u hu
    constructor
    ·rintro ⟨y,hy⟩;rw[GN.mem_iff]at hy;refine⟨h1.1 ⟨y,J_ _ hy⟩,λ e=>?_⟩;subst e;obtain⟨i,hi⟩:=I_.1 hy;have:=hS.out.hp.one (i:=i+1) (j:=0) (e:=((u:Int),y)) (f:=e0) (by simpa using hi) rfl HE.out.1.symm;omega
    ·rintro ⟨h2,h3⟩;obtain⟨y,hy⟩:=h1.2 h2;rcases List.mem_cons.1 hy with h4 | h4
     ·have h5:=HE.out.1;rw[<- h4]at h5;simp at h5;omega
     ·exact⟨y,by rw[GN.mem_iff];exact h4⟩) (λ e he=>hS.out.rng e (by rw[GN.mem_iff]at he;exact J_ _ he))
   have xz:Pg (room l2+(18446744073709551616-e0.2).toNat=n/\(∀ f∈l2,e0.2<=f.2)/\0<=e0.2/\e0.2<18446744073709551616):=by
    refine⟨?_,λ f hf=>HE.out.2.1 f (by rw[GN.mem_iff]at hf;exact J_ _ hf),hS.out.rng e0 (by simp)⟩;rw[MG GN,<-hrm.out];simp[room];omega
   have uZ:=zh hpo;obtain⟨K,c,q1,q2,q3⟩:=BZ.out.core;have HK:=zh (gi X B N p lr cr Rk K Ju OM nA hops settles w1 c BZ.out.stage.inn (BZ.out.stage.light hN) (by omega) HE.out.2.2);clear HP GN ht hS hpo c q1 q2 q3 hrm;go_wp2_with fail;refine HK.out.mono ?_;rintro e w2 ⟨z,rfl,z0,z1,g2⟩;have Jo:=zh (BZ.out.grew g2);have HT:=zh (uL Jo.out.hp);clear HK BZ g2;go_wp2_with fail;refine HT.out.mono ?_;rintro e w3 ⟨ta,tb,sm,rfl,g3,LU⟩;have E4:=zh (Jo.out.grew g3);have HSM:=zh LU;have HZ:=BP z0 z1;clear HT Jo g3 LU z0 z1;go_upto_region 12 with fail;go_cut [58] (λ s wx=>s=.bool (sm&&decide (tb<z))/\wx=w3)
   case first=>as_aux_lemma =>
    cases sm with
    | false =>
     go_wp2_with fail;go_meet;exact⟨rfl,rfl⟩
    | true =>
     by_cases htb:tb<z
     ·go_wp2_with fail;go_meet;exact⟨by simp[htb],rfl⟩
     ·go_wp2_with fail;go_meet;exact⟨by simp[htb],rfl⟩
   case rest =>
    obtain⟨rfl,rfl⟩:=hcut;by_cases hc:sm=true/\tb<z
    ·as_aux_lemma =>
     have hcb:(sm&&decide (tb<z))=true:=(by simp[hc.1,hc.2]);rw[hcb];obtain⟨f,hf,rfl⟩:=HSM.out hc.1;have AH:=hc.2;have Cx:∀ e∈l2,e.1≠(p:Int):=λ e he h=>by
      have:=(E4.out.keys p HE.out.2.2).1 ⟨e.2,by rw[<- h];exact he⟩;exact this.2 rfl
     have HP:=zh (Hp.put_new2 wc H A N v2 l2 E4.out.hp (p:Int) z (by omega) (by have:=HE.out.2.2;omega) Cx);have hef:=xz.out.2.1 f hf;have uW:Pg (e0.2<z):=by show _<_;omega
     clear hcb hc Cx hf AH hef HSM;go_wp2_with fail;refine HP.out.mono ?_;rintro e w4 ⟨rfl,v5,l5,GN,ht⟩;have Lw:Pg (EJ w X B N H A es Ju OM nA hops settles (.slice Rk lr cr) v5 ov l5 out (λ u=>(u:Int)∉out) w4):=E4.out.turn ht (λ u hu=>by
      constructor
      ·rintro ⟨y,hy⟩;rw[GN.mem_iff,F_]at hy;rcases hy with hy | hy
       ·exact((E4.out.keys u hu).1 ⟨y,hy⟩).1
       ·simp at hy;rw[show (u:Int)=(p:Int) from by omega];exact uZ.out
      ·intro hu2;by_cases hup:u=p
       ·subst hup;exact⟨z,by rw[GN.mem_iff];simp⟩
       ·obtain⟨y,hy⟩:=(E4.out.keys u hu).2 ⟨hu2,hup⟩;exact⟨y,by rw[GN.mem_iff];simp[hy]⟩) (λ e he=>by
      rw[GN.mem_iff,F_]at he;rcases he with he | he
      ·exact E4.out.rng e he
      ·simp at he;subst he;exact HZ.out)
     have xA:Pg (room l5<n):=by
      show _<_;have h1:=MG GN;rw[kR]at h1;have h2:=xz.out.1;have h3:=uW.out;have h4:=xz.out.2.2;have h5:=HZ.out;simp only at h1;omega
     clear HP GN ht E4 xz uW HZ HE uZ;go_wp2_with fail;go_step3;exact⟨rfl,_,xA.out,_,_,_,_,_,_,_,_,_,_,_,_,_,_,_,_,_,_,_,_,_,_,_,_,_,_,_,_,_,_,_,_,_,_,_,_,_,_,_,_,_,_,_,_,_,_,_,_,_,_,_,_,_,_,_,_,_,_,_,_,_,_,_,_,_,_,_,_,_,_,_,_,_,rfl,rfl,Lw⟩
    ·as_aux_lemma =>
     have hcb:(sm&&decide (tb<z))=false:=by
      cases sm with
      | false=>rfl
      | true=>simp at hc;simp;omega
     rw[hcb];clear hcb hc HSM;obtain⟨K,c,q1,q2,q3⟩:=E4.out.core;have HC:=zh (Hm X B N p lr cr K Rk Ju OM nA hops settles wc c q3 E4.out.stage.inn (E4.out.stage.light hN) (by omega) HE.out.2.2 (E4.out.stage.lenS hN ts));have HQ:=DK q1 q2 q3;have hBc:Pg (B<=wc.heap.size):=by have h1:=E4.out.hb H (.inl rfl);have h2:=EM E4.out.hp (j:=H) (.inl rfl);show _<=_;omega
     clear c q1 q2 q3;go_wp2_with fail;refine HC.out.mono ?_;rintro e w4 ⟨rfl,l4,of4,ds4,tB,hc4,k4⟩;have hgf:B8 OM (p:Int)=false:=by
      cases hg:B8 OM (p:Int) with
      | false=>rfl
      | true=>exact absurd ((E4.out.stage.going.gone _).1 hg) uZ.out
     have vO:p<OM.length:=by obtain⟨O,G,D,M,sv,vs,nn,h⟩:=hc4;have h1:=h.glen;rw[H_]at h1;rw[h1];exact HE.out.2.2
     have CW:=E4.out.stage.next (v:=(p:Int)) (g':=B8 (OM.set p true)) ⟨by omega,by have:=HE.out.2.2;omega⟩ hgf tB (λ q=>IF OM p vO q);obtain⟨m,hm⟩:=zn (out.length);have how:=E4.out.outs;have tM:=how.kept k4 (λ j hj e=>e.2 (HQ.out.2.1 j hj));have dM:=E4.out.stage.few;unfold AO at tM;rw[hm]at tM dM;have kv:Pg ((w4.alloc (.cells #[i64 p] 3)).ownsRow B 3 1 ov m (out.map i64)):=Ac.own ((zr (λ _=>False) w4).alloc _) tM;have hN4:Pg (∀ j y,[i64 p][j]? = some y->(w4.alloc (.cells #[i64 p] 3)).cell? ((⟨w4.heap.size,0,none⟩:Addr).add j)=some y):=World.news_of_block (heap_alloc_new w4 (.cells #[i64 p] 3));have hm9:m<=12:=(by omega);have HB4:Pg (B<=w4.heap.size):=by have h1:=hBc.out;have h2:=k4.size;show _<=_;omega
     have H4:=DS hc4 k4 CW hm;clear HC tB hc4 k4 hgf vO CW how tM dM hm;go_wp2_with
      (at_builtin
       refine wpList_append_lies _ rfl (.tmp 66) (.tmp 68) 26 (by rfl) B 3 ii (.int .i64 0) 1 8 Pa hii tw tz tA (by rfl) (by omega) ov m (out.map i64) (by rfl) kv.out ⟨w4.heap.size,0,none⟩ 1 1 [i64 p] (by rfl) (by rfl) hN4.out (by intro y hy;simp at hy;subst hy;rfl) (by omega) (by unfold maxLen;omega) (by omega) (by have:=HB4.out;simp;omega) _ rfl ?_
       intro g2 vw wB C5 E5 dS _
       have kB:Kept (λ j=>ov.ownBlock=some j) w4 wB:=((zr (λ j=>ov.ownBlock=some j) w4).alloc _).grown E5 (λ k hk=>.inl hk)
       have Lw:Pg (EJ w X B N H A es (Bo Ju (p:Int) of4 l4 l4.length) (OM.set p true) ds4 hops settles (.slice Rk lr cr) v2 (.slice (some ⟨g2,0,none⟩) (m+1) vw) l2 (out++[(p:Int)]) (λ u=>(u:Int)∉out++[(p:Int)]) wB):=by
        refine E4.out.went HQ.out.1 HQ.out.2.1 HQ.out.2.2 H4.out.1 H4.out.2.1 ?_ kB (λ j hj=>?_) H4.out.2.2.1 (λ u hu=>?_)
        ·unfold AO;rw[List.length_append,H4.out.2.2.2,List.map_append];exact C5
        ·obtain rfl:g2=j:=Pn hj;rcases dS with h | h
         ·exact .inl h
         ·exact .inr (by rw[h];simp)
        ·simp only[F_,List.mem_singleton];constructor
         ·rintro ⟨h1,h2⟩ h3;rcases h3 with h3 | h3
          ·exact h1 h3
          ·exact h2 (by omega)
         ·intro h1;exact⟨λ h=>h1 (.inl h),λ h=>h1 (.inr (by rw[h]))⟩
       clear C5 E5 dS kB)
     have xA:Pg (room l2<n):=by
      show _<_;have h1:=xz.out.1;have h2:=xz.out.2.2;omega
     clear kv hN4 HB4 H4 E4 xz HQ HE uZ HZ hBc;go_wp2_with fail;go_step3;exact⟨rfl,_,xA.out,_,_,_,_,_,_,_,_,_,_,_,_,_,_,_,_,_,_,_,_,_,_,_,_,_,_,_,_,_,_,_,_,_,_,_,_,_,_,_,_,_,_,_,_,_,_,_,_,_,_,_,_,_,_,_,_,_,_,_,_,_,_,_,_,_,_,_,_,_,_,_,_,_,rfl,rfl,Lw⟩
 ·intro hb;go_wp2_with fail;refine HN.out.mono ?_;rintro e w1 ⟨rfl,ET,g1⟩;have Df:Pg (B<=A/\H=A+1/\A=w.heap.size):=⟨by rw[<- HHA.out.2];exact hBw,by have h1:=HHA.out.1;have h2:=HHA.out.2;omega,HHA.out.2.symm⟩;have S0:Pg (EJ w X B N H A es ss gs ds hops settles (.slice Rk lr cr) (.slice none 0 0) (.slice none 0 0) [] [] (λ u=>u<0) w1):=by
   have hl:=λ j hj=>EM ET (j:=j) hj
   have Oa:∀ j,Hp.HB H A (.slice none 0 0) j->w.heap.size<=j:=λ j hj=>by
    have h1:=Df.out;rcases hj with rfl | rfl | hj
    ·omega
    ·omega
    ·cases hj
   refine⟨⟨_,H0.out.1.guard g1,λ j hj=>.inr ⟨Oa j hj,hl j hj⟩,(λ j hj=>by cases hj),λ j hj=>?_⟩,ET,⟨rfl,.inl ⟨rfl,rfl⟩⟩,(λ j hj=>by cases hj),H0.out.2,(λ u hu=>by simp),(λ e he=>by simp at he),Ac.kept g1,λ j hj=>by have:=Oa j hj;omega⟩
   rcases hj with h1 | h1
   ·exact h1.elim
   ·exact h1.2
  obtain⟨O2,x2⟩:=HX0.out w1 g1;clear HN ET g1 x1;go_wp2_with fail;go_loopw [25] (λ i wr=>∃ (k:Nat) (v:Pd) (Jd:List Hp.Itm),k<=N/\i=.int .i64 k/\Pg (EJ w X B N H A es ss gs ds hops settles (.slice Rk lr cr) v (.slice none 0 0) Jd [] (λ u=>u<k) wr)) (λ i _=>N-(intOf i).toNat)
  case atStart=>exact⟨0,_,[],by omega,rfl,S0⟩
  case round =>
   clear S0 x2;obtain⟨k,v,Jd,hk,rfl,hS⟩:=hrel;by_cases AH:k<N
   ·have Ly:(k:Int)<(N:Int):=(by omega);have Fj:(0:Int)<=(k:Int):=(by omega);obtain⟨K,c,q1,q2,q3⟩:=hS.out.core;have HK:=zh (gi X B N k lr cr Rk K ss gs ds hops settles wr c hS.out.stage.inn (hS.out.stage.light hN) (by omega) AH);clear c q1 q2 q3;go_wp2_with fail;refine HK.out.mono ?_;rintro e w2 ⟨z,rfl,z0,z1,g2⟩;have Cx:∀ e∈Jd,e.1≠(k:Int):=λ e he h=>by
     have:=(hS.out.keys k AH).1 ⟨e.2,by rw[<- h];exact he⟩
     omega
    have HP:=zh (Hp.put_new2 w2 H A N v Jd (hS.out.hp.grew g2) (k:Int) z Fj Ly Cx);have BZ:=zh (hS.out.grew g2);have HZ:=BP z0 z1;clear HK hS Cx g2 z0 z1;go_wp2_with fail;refine HP.out.mono ?_;rintro e w3 ⟨rfl,v',l',GN,ht⟩;have Jo:Pg (EJ w X B N H A es ss gs ds hops settles (.slice Rk lr cr) v' (.slice none 0 0) l' [] (λ u=>u<k+1) w3):=BZ.out.turn ht (λ u hu=>by
     constructor
     ·rintro ⟨y,hy⟩;rw[GN.mem_iff,F_]at hy;rcases hy with hy | hy
      ·have:=(BZ.out.keys u hu).1 ⟨y,hy⟩;omega
      ·simp at hy;omega
     ·intro hu2;by_cases huk:u=k
      ·subst huk;exact⟨z,by rw[GN.mem_iff];simp⟩
      ·obtain⟨y,hy⟩:=(BZ.out.keys u hu).2 (by omega);exact⟨y,by rw[GN.mem_iff];simp[hy]⟩) (λ e he=>by
     rw[GN.mem_iff,F_]at he
     rcases he with he | he
     ·exact BZ.out.rng e he
     ·simp at he;subst he;exact HZ.out)
    clear HP BZ GN ht HZ;go_wp2_with fail;go_roundw
    case rel=>first | exact⟨k+1,_,_,by omega,by go_num,Jo⟩ | ((repeat apply Pf);exact⟨⟨k+1,_,_,by omega,by go_num,Jo⟩,rfl⟩)
    case measure=>simp[intOf];omega
   ·obtain rfl:k=N:=(by omega);have BZ:Pg (EJ w X B k H A es ss gs ds hops settles (.slice Rk lr cr) v (.slice none 0 0) Jd [] (λ u=>(u:Int)∉([]:List Int)) wr):=hS.out.congr λ u hu=>by simp[hu]
    clear hS;go_wp2_with fail;go_step3;simp only[Exit.then];apply_assumption;exact hb _ _ _ ⟨_,_,_,_,_,_,_,_,_,_,_,_,_,_,_,_,_,_,_,_,_,_,_,_,_,_,_,_,_,_,_,_,_,_,_,_,_,_,_,_,_,_,_,_,_,_,_,_,_,_,_,_,_,_,_,_,_,_,_,_,_,_,_,_,_,_,_,_,_,_,_,_,_,rfl,rfl,BZ⟩
structure lJ (N:Nat) (es:List AB) (rk:List Int) (ss:List Sc) (out:List Int):Prop where
 st:∃ g,BR N es ss g out
 len:out.length=N
 rlen:rk.length=N
 rok:Bq rk
 rk':∀ (i:Nat) p,out[i]? = some p->rk[p.toNat]? = some (i:Int)
theorem lJ.made {N:Nat} {es:List AB} {rk:List Int} {ss:List Sc} {out:List Int} (h:lJ N es rk ss out) (hN:N<=30):Go.Proofs.YtepelooebggliaaGreatDoor.made N es rk ss:=by
 obtain⟨g,hs⟩:=h.st;exact hs.madeOf h.rlen h.rok h.len (λ i p hp=>by rw[B_,h.rk' i p hp];rfl) (by rw[h.len];exact hN)
theorem NU {w:Pc} {R X:Nat} {t tX:TypeId} {a b:Pd} {cs:Array Pd} (hR:Am w R t #[a,b]) (hX:Am w X tX cs) (h:X≠R) (p q:Pd) :
  Am (w.setCell ⟨R,0,none⟩ p) R t #[p,b]/\Am (w.setCell ⟨R,0,none⟩ p) X tX cs/\Am ((w.setCell ⟨R,0,none⟩ p).setCell ⟨R,1,none⟩ q) R t #[p,q]/\Kept (λ j=>j=R) w ((w.setCell ⟨R,0,none⟩ p).setCell ⟨R,1,none⟩ q):=by
 have k:=((zr (λ j=>j=R) w).setCell (p:=⟨R,0,none⟩) (.inl rfl) p)
 exact⟨by simpa using hR.set 0 p,hX.kept ((zr (λ j=>j=R) w).setCell (p:=⟨R,0,none⟩) (.inl rfl) p) h,by simpa using (hR.set 0 p).set 1 q,k.setCell (.inl rfl) q⟩
def IvL (w9:Pc) (X B:Nat) (K0:Nat->Prop) (N:Nat) (es:List AB) (inv:List Int) (hops settles:Int) (B4:Pd) (k:Nat) (wr:Pc):Prop :=
 ∃ ss gs ds,BR N es ss (B8 gs) (inv.take k)/\Core wr X B K0 N ss gs ds hops settles B4/\Kept (CK B K0) w9 wr
theorem F3 {w:Pc} {R:Nat} {t:TypeId} {a b:Pd} (hR:Am w R t #[a,b]) (p q:Pd) :
  Am ((w.setCell ⟨R,0,none⟩ p).setCell ⟨R,1,none⟩ q) R t #[p,q]/\Kept (λ j=>j=R) w ((w.setCell ⟨R,0,none⟩ p).setCell ⟨R,1,none⟩ q):=by
 have k:=((zr (λ j=>j=R) w).setCell (p:=⟨R,0,none⟩) (.inl rfl) p)
 exact⟨by simpa using (hR.set 0 p).set 1 q,k.setCell (.inl rfl) q⟩
theorem Mn (N:Nat) (p:Int):B8 (A_ N false) p=false:=by
 unfold B8;rw[B_,List.getElem?_replicate];split<;>simp
theorem iW (A Rk:Option Addr) (c N cr:Nat) (es:List AB) (rk:List Int) (hops settles:Int) (w:Pc) (h:Bj w A es) (hr:Aq N es=0) (hl:es.length<=800) (hN:N<=12) (hR:RowI w Rk rk) (Ba:Bq rk) (hlen:rk=[]\/rk.length=N) (h1:1<=hops/\hops<=1000) (h2:1<=settles/\settles<=1000) :
  Pe N_ 191 #[.agg #[i64 N,.slice A es.length c],.agg #[i64 hops,i64 settles,.slice Rk rk.length cr]] w λ e w'=>∃ rv cv rk' ss out,e=.returned (.tuple #[.agg #[rv,cv],i64 0])/\AO w' w.heap.size rv rk'/\Fz w' w.heap.size cv ss/\lJ N es rk' ss out/\(rk=rk'\/rk=[])/\Ac w w':=by
 have bN:Am (w.alloc (.cells #[i64 N,.slice A es.length c] 24)) w.heap.size 24 #[i64 N,.slice A es.length c]:=zv _ _ _
 obtain⟨w1,AQ,g1⟩:=zg w (.cells #[i64 N,.slice A es.length c] 24)
 have s1:w1.heap.size=w.heap.size+1:=by rw[<- AQ];simp
 rw[AQ]at bN
 have bO:Am (w1.alloc (.cells #[i64 hops,i64 settles,.slice Rk rk.length cr] 70)) (w.heap.size+1) 70 #[i64 hops,i64 settles,.slice Rk rk.length cr]:=by rw[<- s1];exact zv _ _ _
 have g12:Ac w1 (w1.alloc (.cells #[i64 hops,i64 settles,.slice Rk rk.length cr] 70)):=(zr _ _).alloc _
 obtain⟨w2,BM⟩:=zn (w1.alloc (.cells #[i64 hops,i64 settles,.slice Rk rk.length cr] 70))
 rw[BM]at bO g12
 have s2:w2.heap.size=w.heap.size+2:=by rw[<- BM];simp[s1]
 obtain⟨w3,Dj,g23,bR⟩:=zb w2 #[.slice none 0 0,.slice none 0 0] 87 s2
 have G3:Ac w w3:=(g1.trans g12).trans g23
 obtain⟨L,hL⟩:=zn (es.length)
 obtain⟨nr,yX⟩:=zn (rk.length)
 have H3:=JQ (bN.grew (g12.trans g23)) (bO.grew g23) bR (h.grew G3) (hR.grew G3) G3
 have HG:=zh (CH (N:Int) A c es w3 H3.out.2.2.2.1 (by omega))
 rw[hL,hr]at HG
 have HR:=JQ hr Ba hlen hL yX hl
 rw[hL]at H3 AQ ⊢
 rw[yX]at H3 BM ⊢
 have x0:=H3.out.1.cell 0
 have x1:=H3.out.1.cell 1
 have y0:=H3.out.2.1.cell 0
 have y1:=H3.out.2.1.cell 1
 have y2:=H3.out.2.1.cell 2
 simp at x0 x1 y0 y1 y2
 have H0:=zh hR
 clear bN bO bR g1 g12 g23 G3 h hR Ba hlen hr hL yX hl
 go_enter Tryz.func191,Tryz.ntmps191
 go_wp2_with fail
 refine HG.out.mono ?_
 rintro e w4 ⟨rfl,g4⟩
 have K4:=zh (H3.out.2.2.2.2.2.trans g4)
 have H4:=Gt (H3.out.1.grew g4) (H3.out.2.1.grew g4) (H3.out.2.2.1.grew g4) (H3.out.2.2.2.1.grew g4) (H3.out.2.2.2.2.1.grew g4)
 have HO:=zh (Ii hops settles rk Rk cr w4 H4.out.2.2.2.2 (by rcases HR.out.2.2.1 with h | h<;>simp[h];omega) HR.out.2.1 h1 h2)
 rw[HR.out.2.2.2.2.1]at HO
 have x0:=H4.out.1.cell 0
 have x1:=H4.out.1.cell 1
 have y0:=H4.out.2.1.cell 0
 have y1:=H4.out.2.1.cell 1
 have y2:=H4.out.2.1.cell 2
 simp at x0 x1 y0 y1 y2
 clear HG g4 H3
 go_wp2_with fail
 refine HO.out.mono ?_
 rintro e w5 ⟨rfl,g5⟩
 have K5:=zh (K4.out.trans g5)
 have H5:=Gt (H4.out.1.grew g5) (H4.out.2.1.grew g5) (H4.out.2.2.1.grew g5) (H4.out.2.2.2.1.grew g5) (H4.out.2.2.2.2.grew g5)
 have HB:=zh (iU A Rk c N nr cr es hops settles w5 H5.out.2.2.2.1 HR.out.1 HR.out.2.2.2.2.2 (by omega))
 rw[HR.out.2.2.2.1]at HB
 have x0:=H5.out.1.cell 0
 have x1:=H5.out.1.cell 1
 have y0:=H5.out.2.1.cell 0
 have y1:=H5.out.2.1.cell 1
 have y2:=H5.out.2.1.cell 2
 simp at x0 x1 y0 y1 y2
 clear HO g5 H4 K4
 have Nd:(1:Int)<=(N:Int):=(right_zero HR.out.1).1
 rcases HR.out.2.2.1 with he | he
 ·obtain rfl:nr=0:=by rw[<- HR.out.2.2.2.2.1,he];rfl
  go_wp2_with fail;refine HB.out.mono ?_;rintro e w6 ⟨X,rfl,hC,g6⟩;have K6:=zh (K5.out.trans g6);have H6:=BP (H5.out.2.1.grew g6) (H5.out.2.2.1.grew g6);have HOr:=zh (kt X w5.heap.size N 0 cr Rk es (EL es L) _ _ hops settles w6 hC (by rw[<- HR.out.2.2.2.1];exact BR.start HR.out.1 (Mn N)) hN HR.out.2.2.2.2.2);obtain⟨y0,y1,y2⟩:=mu H6.out.1;have B5:Pg (w.heap.size+3<=w5.heap.size):=by have:=H5.out.2.2.1.lt;show _<=_;omega
  clear HB g6 H5 K5 hC;go_wp2_with fail;refine HOr.out.mono ?_;rintro e w7 ⟨ov,out,ss,gs,ds,rfl,ho,CW,jH,hC7,k7⟩;obtain⟨A7,c7,rfl,fT⟩:=ho.row;have za:Bq out:=⟨λ x hx=>by rw[jH];exact CW.rng x hx,CW.going.nodup⟩;have HI:=zh (I7 out A7 c7 w7 fT (by omega) za);have H7:=JQ za CW jH hC7 (K6.out.then k7 (λ i hi h=>by have:=B5.out;omega)) (H6.out.2.kept k7 (by have:=B5.out;omega));clear HOr ho CW jH hC7 k7 H6 K6 fT za;go_wp2_with fail;refine HI.out.mono ?_;rintro e w8 ⟨rv,inv,rfl,cC,hinv,g8⟩;obtain⟨O,G,D,M,sv,vs,n,h8⟩:=H7.out.2.2.2.1.grew g8;obtain⟨Ar,fx,rfl,-⟩:=cC.row;have ju:=H7.out.2.2.2.2.2.grew g8;have yp:X≠w.heap.size+2:=by have:=(h8.base X (by simp)).1;have:=B5.out;omega
  obtain⟨t1,t2,t3,t4⟩:=NU ju h8.blk yp (.slice Ar inv.length fx) sv;have z0:=t1.frozen 0;have z1:=t1.frozen 1;have z2:=t2.cell 3;have z3:=t3.cell 0;have z4:=t3.cell 1;have z5:=ju.frozen 0;have z6:=ju.cell 0;have z7:=ju.cell 1;have z8:=t1.cell 1;have z9:=t1.cell 0;have u0:=t3.frozen 0;have u1:=t3.frozen 1;simp at z2 z3 z4 z6 z7 z8 z9;obtain⟨As,cs,rfl,-⟩:=h8.cuts.row;obtain⟨-,-,t5,t6⟩:=NU t3 (h8.blk.kept t4 yp) yp (.slice Ar inv.length fx) (.slice As ss.length cs);obtain⟨q0,q1⟩:=CE t5;have lH:lJ N es inv ss out:=by
   obtain⟨r1,r2⟩:=hinv.back H7.out.1 (λ j hj=>JX H7.out.2.1.going.nodup (λ x hx=>H7.out.2.1.rng x hx) H7.out.2.2.1 j (by rw[<- H7.out.2.2.1];exact hj))
   exact⟨⟨_,H7.out.2.1⟩,H7.out.2.2.1,hinv.len.trans H7.out.2.2.1,r1,hinv.at'⟩
  have kk:=t4.then t6 (λ _ _ h=>h);have HF:=zh (show _/\_/\_/\_ from ⟨Az (cC.kept kk (λ j hj lT=>by
    have h1:=(Ao cC hj).1
    have h2:=H7.out.2.2.2.2.1.size
    have h3:=H7.out.2.2.2.2.2.lt
    omega)) (show w.heap.size<=w7.heap.size from H7.out.2.2.2.2.1.size),Az (Kept.own kk h8.cuts (λ j hj lT=>by
    have h1:=(Ao h8.cuts hj).1
    have h2:=B5.out
    omega)) (show w.heap.size<=w5.heap.size from by have:=B5.out;omega),lH,(H7.out.2.2.2.2.1.trans g8).then kk (λ i hi h=>by omega)⟩)
  clear HI cC hinv g8 h8 ju t1 t2 t3 t4 t5 t6 lH kk;go_wp2_with fail;exact zy (v:=.tuple #[.agg #[.slice Ar inv.length fx,.slice As ss.length cs],i64 0]) (by simp[results,Pb,go_sem,q0,q1]) rfl ⟨_,_,_,_,_,rfl,HF.out.1,HF.out.2.1,HF.out.2.2.1,.inr he,HF.out.2.2.2⟩
 ·obtain rfl:nr=N:=(by rw[<- HR.out.2.2.2.2.1,he]);go_wp2_with fail;refine HB.out.mono ?_;rintro e w6 ⟨X,rfl,hC,g6⟩;have K6:=zh (K5.out.trans g6);have H6:=DK (H5.out.2.1.grew g6) (H5.out.2.2.1.grew g6) (H5.out.2.2.2.2.grew g6);have N9:Pg (w5.heap.size<=w6.heap.size):=g6.size;have HCl:=zh (Gz Rk cr rk w6 H6.out.2.2 (by omega));rw[HR.out.2.2.2.2.1]at HCl;have hC6:=zh hC;obtain⟨y0,y1,y2⟩:=mu H6.out.1;have B5:Pg (w.heap.size+3<=w5.heap.size):=by have:=H5.out.2.2.1.lt;show _<=_;omega
  clear HB g6 H5 K5 hC;go_wp2_with fail;refine HCl.out.mono ?_;rintro e w7 ⟨rv,rfl,hi7,g7⟩;obtain⟨Ar,fx,rfl,-⟩:=hi7.row;have hl7:rk.length=nr:=he;rw[hl7]at hi7 ⊢;have hb7:=H6.out.2.1.grew g7;have hb7':=H6.out.1.grew g7;have z5:=hb7.frozen 0;have z6:=hb7.cell 0;simp at z6;have z8:Kept (λ j=>j=w.heap.size+2) w7 (w7.setCell ⟨w.heap.size+2,0,none⟩ (.slice Ar nr fx)):=(zr (λ j=>j=w.heap.size+2) w7).setCell (p:=⟨w.heap.size+2,0,none⟩) (.inl rfl) _;have g8:Ac w (w7.setCell ⟨w.heap.size+2,0,none⟩ (.slice Ar nr fx)):=(K6.out.trans g7).setCell (.inr (by show _<=w.heap.size+2;omega)) _;have ju:=hb7.set 0 (.slice Ar nr fx);have hb8':=hb7'.far (p:=⟨w.heap.size+2,0,none⟩) (by simp) (.slice Ar nr fx);simp only[List.setIfInBounds_toArray,List.set_cons_zero]at ju;have HI:=zh (I7 rk Rk cr _ (H0.out.grew g8) (by omega) HR.out.2.1);rw[hl7]at HI;obtain⟨y0,y1,y2⟩:=mu hb8';have H7:=DS hi7 z8 g8 g7;have H8:=zh ju;clear HCl hi7 g7 z8 g8 hb7 hb7' ju hb8' hl7 H6 K6;go_wp2_with fail;refine HI.out.mono ?_;rintro e w9 ⟨ivv,inv,rfl,hi9,hinv,g9⟩;obtain⟨Ai,ci,rfl,hri⟩:=hi9.row;have D5:inv.length=nr:=hinv.len.trans he;rw[D5]at hi9 ⊢;obtain⟨K0,BY⟩:∃ K0:Nat->Prop,(λ j=>(λ j=>j=w.heap.size+2) j\/(w6.heap.size<=j/\j<w9.heap.size))=K0:=⟨_,rfl⟩;have z9:Kept (λ j=>j=w.heap.size+2) w6 w9:=(H7.out.2.2.2.kept.then (H7.out.2.1.then g9.kept (λ _ _ h=>h)) (λ _ _ h=>h));have hC9:Pg (Core w9 X w5.heap.size K0 nr (EL es L) (A_ nr false) (A_ nr 0) hops settles (.slice Rk nr cr)):=by
   obtain⟨O,G,D,M,sv,vs,n,h⟩:=hC6.out
   rw[<- BY]
   refine Core.guardK (K:=λ j=>j=w.heap.size+2) (F:=λ j=>j=w.heap.size+2) (wr:=w6) ⟨O,G,D,M,sv,vs,n,{ h with base:=λ j hj=>⟨(h.base j hj).1,λ e=>?_⟩ }⟩ z9 (λ _ h=>h)
   have h1:=(h.base j hj).1
   have h2:=B5.out
   omega
  obtain⟨hiok,hib⟩:=hinv.back HR.out.2.1 (λ j hj=>JX HR.out.2.1.2 (λ x hx=>HR.out.2.1.1 x hx) rfl j hj);have hKlt:∀ j,K0 j->j<w9.heap.size:=λ j hj=>by
   rw[<- BY]at hj
   rcases hj with hj | hj
   ·have:=(H8.out.kept g9 id).lt;have hj:j=w.heap.size+2:=hj;omega
   ·exact hj.2
  have H9:=zh (show _/\_/\_/\_/\_/\_/\_/\_ from ⟨H8.out.grew g9,hi9,hri,D5,hiok,hib,H7.out.2.2.1.trans g9,hKlt⟩);have HrI:Pg (AO w9 w6.heap.size (.slice Ar nr fx) rk/\∀ j,(Value.slice Ar nr fx).ownBlock=some j->K0 j):=by
   have h1:AO w9 w6.heap.size (.slice Ar nr fx) rk:=(H7.out.1.kept H7.out.2.1 (λ j hj lT=>by
    have h1:=(Ao H7.out.1 hj).1;have h2:=B5.out;have h3:=N9.out;omega)).grew g9
   refine⟨h1,λ j hj=>?_⟩
   obtain⟨h2,cur,h3⟩:=Ao h1 hj
   rw[<- BY]
   exact .inr ⟨h2,(Pm.1 h3).1⟩
  have HiK:Pg (∀ a,Ai=some a->K0 a.block):=λ a ha=>by
   subst ha;have e:(Value.slice (some a) nr ci).ownBlock=some a.block:=rfl;obtain⟨h2,cur,h3⟩:=Ao hi9 e;rw[<- BY];refine .inr ⟨?_,(Pm.1 h3).1⟩;have h4:=H7.out.2.2.2.size;have h5:=H7.out.2.1.size;omega
  clear HI hi9 hri hinv hiok hib g9 z9 hKlt H8 hC6;have fj:Pg (IvL w9 X w5.heap.size K0 nr es inv hops settles (.slice Rk nr cr) 0 w9):=⟨EL es L,A_ nr false,A_ nr 0,by rw[List.take_zero,<-HR.out.2.2.2.1];exact BR.start HR.out.1 (Mn nr),hC9.out,zr _ _⟩;clear hC9 BY H7 H0;go_wp2_with fail;go_loopw [52] (λ i wr=>∃ k:Nat,k<=nr/\i=.int .i64 k/\Pg (IvL w9 X w5.heap.size K0 nr es inv hops settles (.slice Rk nr cr) k wr)) (λ i _=>nr-(intOf i).toNat)
  case atStart=>exact⟨0,by omega,rfl,fj⟩
  case round =>
   clear fj;obtain⟨k,hk,rfl,hS⟩:=hrel;obtain⟨ss,gs,ds,CW,hC,rO⟩:=hS.out;have hbK:¬ CK w5.heap.size K0 (w.heap.size+2):=λ h=>by have h1:=h.1;have h2:=B5.out;omega
   by_cases AH:k<nr
   ·have Ly:(k:Int)<(nr:Int):=(by omega);have Fj:(0:Int)<=(k:Int):=(by omega);obtain⟨x,hx⟩:=zx (l:=inv) (i:=k) (by rw[D5];exact AH);obtain⟨b,off,hA,_,e0⟩:=(H9.out.2.2.1.kept rO (λ a ha hf=>hf.2 (HiK.out a ha))) k x hx;have hr:=H9.out.2.2.2.2.1.1 x (zm hx);rw[D5]at hr;obtain⟨x,rfl⟩:∃ z:Nat,x=(z:Int):=⟨x.toNat,by omega⟩;subst hA;have AM:=hr.1;have AX:=hr.2;have HCo:=zh (Hm X w5.heap.size nr x nr cr K0 Rk ss gs ds hops settles wr hC (λ j hj=>Po (H9.out.2.2.2.2.2.2.2 j hj) rO.size) CW.inn (CW.light hN) (by omega) (by omega) (CW.lenS hN HR.out.2.2.2.2.2));have fj:=DK CW rO hx;clear hS CW hC rO hx hr;go_wp2_with fail;refine HCo.out.mono ?_;rintro e w10 ⟨rfl,l,of,ds2,Ba,vC,k10⟩;have BZ:Pg (IvL w9 X w5.heap.size K0 nr es inv hops settles (.slice Rk nr cr) (k+1) w10):=by
     have hg:B8 gs (x:Int)=false:=by
      apply Pk;intro Bm;have hm:=(fj.out.1.going.gone (x:Int)).1 (by simpa using Bm);obtain⟨i,hi,hix⟩:=List.getElem_of_mem hm;have fS:i<k:=by rw[List.length_take]at hi;omega
      obtain⟨p2,q2⟩:=C_.1 fj.out.2.2;rw[List.getElem_take]at hix;have hp:=G_.1 H9.out.2.2.2.2.1.2;exact hp i k (by omega) p2 fS (by rw[hix,q2])
     obtain⟨O,G,D,M,sv,vs,n,h2⟩:=vC
     have vO:gs.length=nr:=by have:=h2.glen;simpa using this
     have:=fj.out.1.next ⟨by omega,AX⟩ hg Ba (g':=B8 (gs.set x true)) (IF gs x (by omega))
     refine⟨_,_,_,?_,⟨O,G,D,M,sv,vs,n,h2⟩,fj.out.2.1.then k10 (λ _ _ h=>h)⟩
     rw[List.take_add_one,fj.out.2.2]
     exact this
    clear HCo Ba vC k10 fj;go_wp2_with fail;go_roundw
    case rel=>first | exact⟨k+1,by omega,by go_num,BZ⟩ | ((repeat apply Pf);exact⟨⟨k+1,by omega,by go_num,BZ⟩,rfl⟩)
    case measure=>simp[intOf];omega
   ·obtain rfl:k=nr:=(by omega);obtain⟨O,G,D,M,sv,vs,n,h8⟩:=hC;obtain⟨As,cs,rfl,-⟩:=h8.cuts.row;have hRb:=H9.out.1.kept rO hbK;have yp:X≠w.heap.size+2:=by have:=(h8.base X (by simp)).1;have:=B5.out;omega
    have kk:=(zr (λ j=>j=w.heap.size+2) wr).setCell (p:=⟨w.heap.size+2,1,none⟩) (.inl rfl) (.slice As ss.length cs);have t3:=hRb.set 1 (.slice As ss.length cs);simp only[sA]at t3;obtain⟨t1,-,t5,t6⟩:=NU t3 (h8.blk.kept kk yp) yp (.slice Ar k fx) (.slice As ss.length cs);have z2:=h8.blk.cell 3;have z5:=hRb.frozen 1;have z6:=hRb.cell 1;have z3:=t3.cell 0;have z4:=t3.cell 1;have u0:=t3.frozen 0;have u1:=t3.frozen 1;have u2:=t1.frozen 1;have u3:=t1.cell 1;have q0:=t5.cell 0;have q1:=t5.cell 1;simp at z2 z3 z4 z6 u3 q0 q1;have kk':=kk.then t6 (λ _ _ h=>h);have hri:AO wr w6.heap.size (.slice Ar k fx) rk:=HrI.out.1.kept rO (λ j hj hf=>hf.2 (HrI.out.2 j hj));have LW:inv.take k=inv:=L_ (by omega);rw[LW]at CW;have HF:=zh (show _/\_/\_/\_ from ⟨Az (hri.kept kk' (λ j hj lT=>by
      have h1:=(Ao hri hj).1
      have h2:=B5.out
      have h3:=N9.out
      omega)) (show w.heap.size<=w6.heap.size from by have:=B5.out;have:=N9.out;omega),Az (Kept.own kk' h8.cuts (λ j hj lT=>by
      have h1:=(Ao h8.cuts hj).1
      have h2:=B5.out
      omega)) (show w.heap.size<=w5.heap.size from by have:=B5.out;omega),(⟨⟨_,CW⟩,D5,he,HR.out.2.1,H9.out.2.2.2.2.2.1⟩:lJ k es rk ss inv),
      ((H9.out.2.2.2.2.2.2.1.then rO (λ i hi h=>by have h1:=h.1;have h2:=B5.out;omega)).then kk' (λ i hi h=>by omega):Ac w _)⟩)
    clear hS CW h8 hRb kk t3 t1 t5 t6 kk' hri H9 HrI HiK rO hbK;go_wp2_with fail;exact zy (v:=.tuple #[.agg #[.slice Ar k fx,.slice As ss.length cs],i64 0]) (by simp[results,Pb,go_sem,q0,q1]) rfl ⟨_,_,_,_,_,rfl,HF.out.1,HF.out.2.1,HF.out.2.2.1,.inl rfl,HF.out.2.2.2⟩
end Go.Proofs.YtepelooebggliaaGreatDoor
