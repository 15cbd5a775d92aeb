/- Walks of functions that the law reaches, and plain laws, part 21 of 21: lemmas for the proof in the last text; no condition. Shortened by program. -/
import Derived.Test.YtepelooebggliaaGreatDoorSu0
import Derived.Test.YtepelooebggliaaGreatDoorSu13
import Derived.Test.YtepelooebggliaaGreatDoorSu16
import Derived.Test.YtepelooebggliaaGreatDoorSu18
import Derived.Test.YtepelooebggliaaGreatDoorSu19
open Go.Proofs.Tryz renaming prog->A_,underlying3->B_
open Nat renaming le_trans->C_
open Int renaming eq_ofNat_of_zero_le->D_
open Go.Value renaming okWide->E_,oneCell'->F_
open Go.DataW renaming Trod->G_
set_option maxHeartbeats 16000000
set_option maxRecDepth 100000
set_option linter.unusedVariables false
set_option linter.unusedSimpArgs false
namespace Go.Proofs.YtepelooebggliaaGreatDoor
open Go.RowKit
theorem ew {G:Rel} {s t a b:Int} (h:Bw G s t a) (k:Bw G s t b):a=b:=by
 have h1:=h.2 _ k.1;have h2:=k.2 _ h.1;omega
theorem zAc (p1 p2 p3 p4 p5 p6 p7 p8:Prop):p1\/(¬ p1/\p2)\/(¬ p1/\¬ p2/\p3)\/(¬ p1/\¬ p2/\¬ p3/\p4)\/(¬ p1/\¬ p2/\¬ p3/\¬ p4/\p5)\/(¬ p1/\¬ p2/\¬ p3/\¬ p4/\¬ p5/\p6)\/(¬ p1/\¬ p2/\¬ p3/\¬ p4/\¬ p5/\¬ p6/\p7)\/(¬ p1/\¬ p2/\¬ p3/\¬ p4/\¬ p5/\¬ p6/\¬ p7/\p8)\/(¬ p1/\¬ p2/\¬ p3/\¬ p4/\¬ p5/\¬ p6/\¬ p7/\¬ p8):=by
 by_cases h1:p1
 ·exact .inl h1
 by_cases h2:p2
 ·exact .inr (.inl ⟨h1,h2⟩)
 by_cases h3:p3
 ·exact .inr (.inr (.inl ⟨h1,h2,h3⟩))
 by_cases h4:p4
 ·exact .inr (.inr (.inr (.inl ⟨h1,h2,h3,h4⟩)))
 by_cases h5:p5
 ·exact .inr (.inr (.inr (.inr (.inl ⟨h1,h2,h3,h4,h5⟩))))
 by_cases h6:p6
 ·exact .inr (.inr (.inr (.inr (.inr (.inl ⟨h1,h2,h3,h4,h5,h6⟩)))))
 by_cases h7:p7
 ·exact .inr (.inr (.inr (.inr (.inr (.inr (.inl ⟨h1,h2,h3,h4,h5,h6,h7⟩))))))
 by_cases h8:p8
 ·exact .inr (.inr (.inr (.inr (.inr (.inr (.inr (.inl ⟨h1,h2,h3,h4,h5,h6,h7,h8⟩)))))))
 ·exact .inr (.inr (.inr (.inr (.inr (.inr (.inr (.inr ⟨h1,h2,h3,h4,h5,h6,h7,h8⟩)))))))
def EN (s t:Nat):List UInt8:=32::(dec s++32::dec t)
theorem nD {s t:Nat} (hs:s<=4095) (ht:t<=4095):(EN s t).length<=42:=by
 have q1:=BL (n:=s) (by omega);have q2:=BL (n:=t) (by omega);unfold EN;simp;omega
def stL (s t:Nat):List (List UInt8):=[At [Af 2,dec s,dec t],At [Af 3,dec s,dec t],At [Af 5,dec s,dec t,dec 3],At [Af 8,dec 0,dec 5],At [Af 9,dec s,dec t],At [Af 4,dec s,dec t,dec 2,dec 1++47::dec 1,dec 1++47::dec 1,dec 1++47::dec 1],At [Af 6,dec s,dec t,dec 2,dec 2,dec 2++47::dec 1,dec 1++47::dec 1,dec 1++47::dec 1,dec 1++47::dec 1]]
theorem zAd (s t:Nat):stL s t=[[82,79,85,84,69]++EN s t,[68,73,83,84]++EN s t,[75,83,80]++EN s t++[32,51],[78,69,65,82,32,48,32,53],[84,79,85,82]++EN s t,[65,76,84]++EN s t++[32,50,32,49,47,49,32,49,47,49,32,49,47,49],[80,69,78]++EN s t++[32,50,32,50,32,50,47,49,32,49,47,49,32,49,47,49,32,49,47,49]]:=by
 unfold stL EN;rw[d0,d1,d2,d3,d5,show Af 2=[82,79,85,84,69] from rfl,show Af 3=[68,73,83,84] from rfl,show Af 5=[75,83,80] from rfl,show Af 8=[78,69,65,82] from rfl,show Af 9=[84,79,85,82] from rfl,show Af 4=[65,76,84] from rfl,show Af 6=[80,69,78] from rfl];simp[At,C7]
theorem ic (s t:Nat):At [Af 3,dec s,dec t]=[68,73,83,84]++EN s t:=by
 unfold EN;rw[show Af 3=[68,73,83,84] from rfl];simp[At,C7]
theorem dq:Bx 9=.agg #[i64 9,.string ⟨#[]⟩,.slice none 0 0,.slice none 0 0,.slice none 0 0]:=rfl
theorem eT {X Y B:Nat} {hops settles:Int} {N:Nat} {es:List AB} {hx:Option Hx} (s t:Nat) (hs:s<=4095) (ht:t<=4095) (k:Nat) (hk:k<7):∃ l,(stL s t)[k]? = some l/\∀ {W:World},Au W X Y B hops settles 3 N es hx->Calls A_ 14 #[pt X,str l] W (vh X Y B hops settles N es hx W):=by
 rcases(show k=0\/k=1\/k=2\/k=3\/k=4\/k=5\/k=6 by omega) with rfl | rfl | rfl | rfl | rfl | rfl | rfl
 ·exact⟨_,rfl,λ h=>NR s t hs ht h⟩
 ·exact⟨_,rfl,λ h=>Jc s t 13 h (by omega) (by omega) (by decide) (by omega) hs ht⟩
 ·exact⟨_,rfl,λ h=>eR s t hs ht h⟩
 ·exact⟨_,rfl,λ h=>bf h⟩
 ·exact⟨_,rfl,λ h=>bg s t hs ht h⟩
 ·exact⟨_,rfl,λ h=>eQ s t hs ht h⟩
 ·exact⟨_,rfl,λ h=>eS s t hs ht h⟩
theorem i7 {w:World} {X Y B N:Nat} {hops settles:Int} {es:List AB} {x:Option Hx} (e y:Nat) (h:Au w X Y B hops settles 2 N es x) (hr:Aq N es=0) (hl:es.length<=800) (he:e<es.length) (hy:1<=y/\y<=4294967296) (hB:B<=w.heap.size) :
  Calls A_ 10 #[pt X,str ([83,69,84,87,32]++dec e++[32]++dec y)] w λ r w'=>∃ g,r=.returned (Co 0 (Af 7) (some ⟨g,0,none⟩) 2 2 none 0 0)/\Au w' X Y B hops settles 3 N (BX es e y) x/\Kept (λ j=>j=X\/j=Y) w w':=by
 have oD:At [Af 7,dec e,dec y]=[83,69,84,87,32]++dec e++[32]++dec y:=by rw[show Af 7=[83,69,84,87] from rfl];simp[At,C7]
 rw[<- oD]
 refine(GD e y h (by omega) hr hl he hy hB).mono ?_
 rintro r w' ⟨g,rfl,_,hs,k⟩
 exact⟨g,rfl,hs,k⟩
structure TsS (w:World) (X Y B N MX Cv vi:Nat) (es es0:List AB) (x:Option Hx) (A5:Option Addr) (L c5:Nat) (rk:List Int) (AR6:Option Addr) (c6 g:Nat) (ls:List (List UInt8)) (wr:World):Prop where
 sess:Au wr X Y B 3 20 3 N es x
 gbox:Am wr MX 24 #[i64 N,.slice A5 L c5]
 row:NZ wr w.heap.size A5 es0
 rank:∃ B6,AO wr B6 (.slice AR6 rk.length c6) rk/\X<B6/\Y<B6
 sbox:Am wr Cv 42 #[i64 0,str (Af 7),.slice (some ⟨g,0,none⟩) 2 2,.slice none 0 0,.slice none 0 0]
 lbox:Am wr vi 9 (ls.map str).toArray
 kept:Ac w wr
 lt:w.heap.size<=X/\w.heap.size<=Y/\B<=wr.heap.size
theorem TsS.did {w wr wx:World} {X Y B N MX Cv vi:Nat} {es es0:List AB} {x:Option Hx} {A5:Option Addr} {L c5:Nat} {rk:List Int} {AR6:Option Addr} {c6 g:Nat} {ls:List (List UInt8)} (h:TsS w X Y B N MX Cv vi es es0 x A5 L c5 rk AR6 c6 g ls wr) (k:Kept (λ j=>j=X\/j=Y) wr wx) (hs:Au wx X Y B 3 20 3 N es x):TsS w X Y B N MX Cv vi es es0 x A5 L c5 rk AR6 c6 g ls wx:=by
 obtain⟨left,done,s1,⟨Ak,ck,ev,hv,c0,c1,c2,s2⟩,s3⟩:=h.sess;have no:∀ (j:Nat) t cs,Am wr j t cs->t≠84->t≠115->¬ (j=X\/j=Y):=λ j t cs hb n1 n2 e=>by
  rcases e with e | e
  ·subst e;exact Ay hb s1 n1 rfl
  ·subst e;exact Ay hb s2.blk n2 rfl
 refine⟨hs,h.gbox.kept k (no _ _ _ h.gbox (by decide) (by decide)),h.row.sess h.sess k ⟨h.lt.1,h.lt.2.1⟩,?_,h.sbox.kept k (no _ _ _ h.sbox (by decide) (by decide)),h.lbox.kept k (no _ _ _ h.lbox (by decide) (by decide)),h.kept.then k (λ i hi e=>by have:=h.lt;omega),h.lt.1,h.lt.2.1,C_ h.lt.2.2 k.size⟩;obtain⟨B6,h1,h2,h3⟩:=h.rank;exact⟨B6,h1.kept k (λ j hj e=>by have:=(Ao h1 hj).1;omega),h2,h3⟩
theorem topStale_any (n:Int) (AE AL AR:Option Addr) (cE cL cR:Nat) (es:List AB) (cs:List uS) (rk:List Int) (e x s t:Int) (w:World) (hE:Bj w AE es) (hC:cO w AL cs) (hR:RowI w AR rk) (hm:es.length<=9223372036854775807) (hx:∀ c∈cs,c.2<18446744073709551616) :
  Calls A_ 3 #[.agg #[i64 n,.slice AE es.length cE,.slice AL cs.length cL,.slice AR rk.length cR],i64 e,u64 x,i64 s,i64 t] w λ r w'=>r=.returned (.bool true)/\Ac w w':=by
 obtain⟨T,hsT⟩:=zn (w.heap.size)
 obtain⟨w1,AQ,g1,b0⟩:=zb w #[i64 n,.slice AE es.length cE,.slice AL cs.length cL,.slice AR rk.length cR] 28 hsT
 have HL:=zh (j8 n AE AL AR es.length cE cs.length cL rk.length cR w1 hm)
 have HA:=zh iN
 obtain⟨lb,Ht⟩:=zn (KB n es.length cs.length rk.length)
 rw[Ht]at HL
 have H0:=DS (hE.grew g1) (hC.grew g1) (RowI.grew hR g1) hx
 obtain⟨L,hL⟩:=zn (es.length)
 obtain⟨M,hM⟩:=zn (cs.length)
 obtain⟨R,jo⟩:=zn (rk.length)
 have HN:=DK hL hM jo
 have HG:=BP g1 b0
 rw[hL,hM,jo]at HL AQ HG b0 Ht
 rw[hL,hM,jo]
 have x0:=b0.cell 0
 have x1:=b0.cell 1
 have x2:=b0.cell 2
 have x3:=b0.cell 3
 simp at x0 x1 x2 x3
 have e0:w.alloc (.cells #[.int .i64 n,.slice AE L cE,.slice AL M cL,.slice AR R cR] 28)=w1:=AQ
 have HLb:=zh Ht
 clear g1 b0 AQ hE hC hR hx hL hM jo hm Ht
 go_enter Tryz.func3,Tryz.ntmps3
 go_wp2_with fail
 refine HL.out.mono ?_
 rintro r w2 ⟨rfl,g2⟩
 have H2:=BP (HG.out.1.trans g2) (HG.out.2.grew g2)
 have H02:=DS (H0.out.1.grew g2) (H0.out.2.1.grew g2) (H0.out.2.2.1.grew g2) H0.out.2.2.2
 clear HL g2 HG H0 x0 x1 x2 x3
 cases lb
 ·go_wp2_with fail;refine(HA.out _).mono ?_;rintro r w3 ⟨rfl,g3⟩;have HF:=zh (H2.out.1.trans g3);clear g3;go_wp2_with fail;go_ret;exact⟨rfl,HF.out⟩
 have tf:(n<=7\/4096<n)/\L<=22/\M<=20/\R<=60:=by
  have h:=HLb.out;simp[KB,pw,jV]at h;omega
 have HRt:=zh (Dg n AE cE es w2 H02.out.1 (by rw[HN.out.1];omega))
 obtain⟨rf,LB⟩:=zn (Aq n es)
 rw[LB,HN.out.1]at HRt
 have HRf:=zh LB
 obtain⟨x0,x1,x2,x3⟩:_/\_/\_/\_:=⟨H2.out.2.cell 0,H2.out.2.cell 1,H2.out.2.cell 2,H2.out.2.cell 3⟩
 simp at x0 x1 x2 x3
 have xc:=zh tf
 clear tf LB
 go_wp2_with fail
 refine HRt.out.mono ?_
 rintro r w3 ⟨rfl,g3⟩
 have H3:=BP (H2.out.1.trans g3) (H2.out.2.grew g3)
 have H03:=DS (H02.out.1.grew g3) (H02.out.2.1.grew g3) (H02.out.2.2.1.grew g3) H02.out.2.2.2
 clear HRt g3 H2 H02 x0 x1 x2 x3
 by_cases LB:rf=0
 rotate_left
 ·have oW:((rf:Int) != 0)=true:=(by simpa using LB);clear LB;go_wp2_with fail;refine(HA.out _).mono ?_;rintro r wz ⟨rfl,gz⟩;have HF:=zh (H3.out.1.trans gz);clear gz;go_wp2_with fail;go_ret;exact⟨rfl,HF.out⟩
 subst LB
 obtain⟨x0,x1,x2,x3⟩:_/\_/\_/\_:=⟨H3.out.2.cell 0,H3.out.2.cell 1,H3.out.2.cell 2,H3.out.2.cell 3⟩
 simp at x0 x1 x2 x3
 rcases zAc (e<0) ((L:Int)<=e) (x<1) (4294967296<x) (s<0) (n<=s) (t<0) (n<=t) with q1 | ⟨q1,q2⟩ | ⟨q1,q2,q3⟩ | ⟨q1,q2,q3,q4⟩ | ⟨q1,q2,q3,q4,q5⟩ | ⟨q1,q2,q3,q4,q5,q6⟩ | ⟨q1,q2,q3,q4,q5,q6,q7⟩ | ⟨q1,q2,q3,q4,q5,q6,q7,q8⟩ | ⟨q1,q2,q3,q4,q5,q6,q7,q8⟩
 case inr.inr.inr.inr.inr.inr.inr.inr =>
  obtain⟨N,rfl⟩:∃ N:Nat,n=(N:Int):=by
   have:=right_zero HRf.out;exact⟨n.toNat,by omega⟩
  have hN7:N<=7:=by
   have:=right_zero HRf.out;have:=xc.out.1;omega
  obtain⟨s,rfl⟩:=D_ (show 0<=s by omega);obtain⟨t,rfl⟩:=D_ (show 0<=t by omega);obtain⟨e,rfl⟩:=D_ (show 0<=e by omega);obtain⟨x,rfl⟩:=D_ (show 0<=x by omega);have HQ:=zh (show s<N/\t<N/\e<L/\(1<=x/\x<=4294967296)/\N<=7/\L<=22 by have:=xc.out.2.1;omega);have HBg:=zh (cV w3 N AE AL AR cE cL cR es cs rk H03.out.1 H03.out.2.1 H03.out.2.2.1 HRf.out hN7 (by rw[HN.out.1];exact xc.out.2.1) (by rw[HN.out.2.1];exact xc.out.2.2.1) (by rw[HN.out.2.2];exact xc.out.2.2.2) H03.out.2.2.2);rw[HN.out.1,HN.out.2.1,HN.out.2.2]at HBg;go_wp2_with fail;refine HBg.out.mono ?_;rintro r w5 ⟨X,Y,B,A5,c5,x5,rfl,lV,Iw,Ia,hr5,hl5,hB5,hX5,hY5,g5,hA5⟩;obtain⟨lO,hes5⟩:=zn (Lu es cs);rw[hes5]at lV Iw Ia hr5 hl5 hA5;have hz3:=H3.out.1.size;have bQ:=zh (show Au w5 X Y B 3 20 2 N lO (some x5)/\x5.es=lO/\NZ w5 w3.heap.size A5 lO/\Aq N lO=0/\lO.length=L/\B<=w5.heap.size/\w3.heap.size<=X/\w3.heap.size<=Y/\Ac w3 w5 from ⟨lV,Iw,⟨Ia,hA5⟩,hr5,hl5,hB5,hX5,hY5,g5⟩);have HT3:=zh H3.out.1;have HM:=zh xc.out.2.1;have rD:Hid (w3.heap.size<=X/\w3.heap.size<=Y):=⟨hX5,hY5⟩;have HT12:Hid (w3.heap.size<=w5.heap.size):=g5.size;clear HBg lV Iw Ia hr5 hl5 hB5 hX5 hY5 g5 hA5 hz3 hes5 H3 H03 x0 x1 x2 x3 q1 q2 q3 q4 q5 q6 q7 q8 HRf xc HLb hN7;obtain⟨MX,th⟩:=zn (w5.heap.size);obtain⟨w6,lX,g6,b6⟩:=zb w5 #[i64 N,.slice A5 L c5] 24 th;have hO:=Nl bQ.out.1;rw[bQ.out.2.1]at hO;have dV:x5.rk.length=N:=hO.rlen;have Od:x5.ss.length<=1000:=Nk hO HQ.out.2.2.2.2.1 (by rw[bQ.out.2.2.2.2.1];have:=HQ.out;have:=HN.out;omega);have cN:=zh (GX (bQ.out.1.grew g6) (by rw[dV];have:=HQ.out;omega) (by omega));have e6:w5.alloc (.cells #[.int .i64 (N:Int),.slice A5 L c5] 24)=w6:=lX;have ve:=DS g6 b6 th dV;have zAp:Hid (w3.heap.size<=MX):=by rw[<- th];exact HT12.out
  clear lX g6 b6 hO dV Od HT12;go_wp2_with fail;clear e6 th;refine cN.out.mono ?_;rintro r w7 ⟨v7,rfl,fT,g7⟩;obtain⟨A7,c7,rfl⟩:=Ap fT;rw[ve.out.2.2.2];have hz6:X<w6.heap.size/\Y<w6.heap.size:=(bQ.out.1.grew ve.out.1).lt;have HE:=zh (λ W=>Fa e (by have:=HQ.out;omega) W);have HXp:=zh (λ W=>CG x (by have:=HQ.out;omega) W);have HX7:=DS fT g7 hz6 (ve.out.2.1.grew g7);have HD7:=zh (λ W (k:Ac w7 W)=>i7 e x ((bQ.out.1.grew ve.out.1).grew (g7.trans k)) bQ.out.2.2.2.1 (by rw[bQ.out.2.2.2.2.1];have:=HQ.out;omega) (by rw[bQ.out.2.2.2.2.1];exact HQ.out.2.2.1) HQ.out.2.2.2.1 (C_ bQ.out.2.2.2.2.2.1 (C_ ve.out.1.size (C_ g7.size k.size))));obtain⟨l1,jC⟩:=zn ([83,69,84,87,32]++dec e);obtain⟨l2,oB⟩:=zn (l1++[32]);obtain⟨l3,tJ⟩:=zn (l2++dec x);have z1:(dec e).length<=20:=BL (by have:=HQ.out;omega);have z2:(dec x).length<=20:=BL (by have:=HQ.out;omega);have z3:l1.length<=25:=by rw[<- jC];simp;omega
  have z4:l2.length<=26:=by rw[<- oB];simp;omega
  have n1:¬ 9223372036854775807<5+(bs (dec e)).size:=by rw[AT];omega
  have n2:¬ 9223372036854775807<(bs l1).size+1:=by rw[AT];omega
  have n3:¬ 9223372036854775807<(bs l2).size+(bs (dec x)).size:=by rw[AT,AT];omega
  have r1:(⟨#[83,69,84,87,32]⟩:ByteArray)++bs (dec e)=bs l1:=by rw[<- jC];exact AI [83,69,84,87,32] _
  have r2:bs l1++(⟨#[32]⟩:ByteArray)=bs l2:=by rw[<- oB];exact AI _ [32]
  have r3:bs l2++bs (dec x)=bs l3:=by rw[<- tJ];exact AI _ _
  rw[jC,oB,tJ]at HD7;clear jC oB tJ z1 z2 z3 z4 fT g7 hz6 cN;go_wp2_with fail;refine(HE.out _).mono ?_;rintro r wa ⟨rfl,ga⟩;clear HE;go_wp2_with fail;refine(HXp.out _).mono ?_;rintro r wb ⟨rfl,gb⟩;have GB:=zh (ga.trans gb);clear HXp ga gb;go_wp2_with fail;refine(HD7.out _ GB.out).mono ?_;rintro r w8 ⟨gs,rfl,hs8,k8⟩;have HD8:=BP hs8 k8;clear HD7 hs8 k8 n1 n2 n3 r1 r2 r3;unfold Co;obtain⟨Cv,Eg⟩:=zn (w8.heap.size);obtain⟨wz,O5,gz,bz⟩:=zb w8 #[i64 0,.string ⟨#[]⟩,.slice none 0 0,.slice none 0 0,.slice none 0 0] 42 Eg;obtain⟨w9,hw9⟩:=zn (wz.setRow Cv #[i64 0,str (Af 7),.slice (some ⟨gs,0,none⟩) 2 2,.slice none 0 0,.slice none 0 0]);have g9:Ac w8 w9:=by rw[<- hw9];exact gz.setRow (.inr (by rw[Eg];exact zl _)) _
  have b9:Am w9 Cv 42 #[i64 0,str (Af 7),.slice (some ⟨gs,0,none⟩) 2 2,.slice none 0 0,.slice none 0 0]:=by rw[<- hw9];exact bz.setRow _
  have e9:w8.alloc (.cells #[.int .i64 0,.string ⟨#[]⟩,.slice none 0 0,.slice none 0 0,.slice none 0 0] 42)=wz:=O5;have HBZ:=zh bz;have HX9:=BP g9 b9;have fg:=zh (λ W=>OK s t (by have:=HQ.out;omega) (by have:=HQ.out;omega) W);have hen:=nD (s:=s) (t:=t) (by have:=HQ.out;omega) (by have:=HQ.out;omega);rw[show 32::(dec s++32::dec t)=EN s t from rfl]at fg;have hLs:=zAd s t;have F8:=ic s t;obtain⟨en,hEn⟩:=zn (EN s t);rw[hEn]at fg hen hLs F8;clear O5 gz bz g9 b9 hEn;obtain⟨m1,Mv⟩:=zn ([82,79,85,84,69]++en);have am1:(⟨#[82,79,85,84,69]⟩:ByteArray)++bs en=bs m1:=by rw[<- Mv];exact AI [82,79,85,84,69] _
  have bm1:¬ 9223372036854775807<5+(bs en).size:=by rw[AT];omega
  obtain⟨m2,G7⟩:=zn ([68,73,83,84]++en);have am2:(⟨#[68,73,83,84]⟩:ByteArray)++bs en=bs m2:=by rw[<- G7];exact AI [68,73,83,84] _
  have bm2:¬ 9223372036854775807<4+(bs en).size:=by rw[AT];omega
  obtain⟨m3,yP⟩:=zn ([75,83,80]++en);have am3:(⟨#[75,83,80]⟩:ByteArray)++bs en=bs m3:=by rw[<- yP];exact AI [75,83,80] _
  have bm3:¬ 9223372036854775807<3+(bs en).size:=by rw[AT];omega
  have cm3:m3.length<=45:=by rw[<- yP];simp;omega
  obtain⟨m3s,yQ⟩:=zn (m3++[32,51]);have dm3:bs m3++(⟨#[32,51]⟩:ByteArray)=bs m3s:=by rw[<- yQ];exact AI _ [32,51]
  have fm3:¬ 9223372036854775807<(bs m3).size+2:=by rw[AT];omega
  obtain⟨m4,hm4⟩:=zn ([84,79,85,82]++en);have am4:(⟨#[84,79,85,82]⟩:ByteArray)++bs en=bs m4:=by rw[<- hm4];exact AI [84,79,85,82] _
  obtain⟨m5,vU⟩:=zn ([65,76,84]++en);have am5:(⟨#[65,76,84]⟩:ByteArray)++bs en=bs m5:=by rw[<- vU];exact AI [65,76,84] _
  have cm5:m5.length<=45:=by rw[<- vU];simp;omega
  obtain⟨m5s,yR⟩:=zn (m5++[32,50,32,49,47,49,32,49,47,49,32,49,47,49]);have dm5:bs m5++(⟨#[32,50,32,49,47,49,32,49,47,49,32,49,47,49]⟩:ByteArray)=bs m5s:=by rw[<- yR];exact AI _ [32,50,32,49,47,49,32,49,47,49,32,49,47,49]
  have fm5:¬ 9223372036854775807<(bs m5).size+14:=by rw[AT];omega
  obtain⟨m6,hm6⟩:=zn ([80,69,78]++en);have am6:(⟨#[80,69,78]⟩:ByteArray)++bs en=bs m6:=by rw[<- hm6];exact AI [80,69,78] _
  have cm6:m6.length<=45:=by rw[<- hm6];simp;omega
  obtain⟨m6s,yS⟩:=zn (m6++[32,50,32,50,32,50,47,49,32,49,47,49,32,49,47,49,32,49,47,49]);have dm6:bs m6++(⟨#[32,50,32,50,32,50,47,49,32,49,47,49,32,49,47,49,32,49,47,49]⟩:ByteArray)=bs m6s:=by rw[<- yS];exact AI _ [32,50,32,50,32,50,47,49,32,49,47,49,32,49,47,49,32,49,47,49]
  have fm6:¬ 9223372036854775807<(bs m6).size+20:=by rw[AT];omega
  rw[Mv,G7,yP,yQ,hm4,vU,yR,hm6,yS]at hLs;rw[G7]at F8;clear Mv G7 yP yQ hm4 vU yR hm6 yS cm3 cm5 cm6;have HLs:=BP hLs F8;clear hLs F8 hen;go_wp2_with (refine wpList_store_rowTo rfl 42 (.tmp 15) (.tmp 90) rfl rfl Cv #[i64 0,str (Af 7),.slice (some ⟨gs,0,none⟩) 2 2,.slice none 0 0,.slice none 0 0] (by rfl) (by rfl) 42 _ HBZ.out (by kernel_rfl) rfl (AF (by simp[F_])) ?_;rw[hw9]);clear hw9 HBZ;refine(fg.out _).mono ?_;rintro r v0 ⟨rfl,gv0⟩;have GV0:=zh gv0;clear gv0;go_wp2_with fail;refine(fg.out _).mono ?_;rintro r v1 ⟨rfl,gv1⟩;have GV1:=zh (GV0.out.trans gv1);clear gv1;go_wp2_with fail;refine(fg.out _).mono ?_;rintro r v2 ⟨rfl,gv2⟩;have GV2:=zh (GV1.out.trans gv2);clear gv2;go_wp2_with fail;refine(fg.out _).mono ?_;rintro r v3 ⟨rfl,gv3⟩;have GV3:=zh (GV2.out.trans gv3);clear gv3;go_wp2_with fail;refine(fg.out _).mono ?_;rintro r v4 ⟨rfl,gv4⟩;have GV4:=zh (GV3.out.trans gv4);clear gv4;go_wp2_with fail;refine(fg.out _).mono ?_;rintro r v5 ⟨rfl,gv5⟩;have GV5:=zh (GV4.out.trans gv5);clear gv5;clear fg;obtain⟨vi,hT16⟩:=zn (v5.heap.size);obtain⟨w10,tW⟩:=zn (v5.alloc (.cells #[.string (bs m1),.string (bs m2),.string (bs m3s),.string ⟨#[78,69,65,82,32,48,32,53]⟩,.string (bs m4),.string (bs m5s),.string (bs m6s)] 9));have g10:Ac w9 w10:=GV5.out.trans (by rw[<- tW];exact Ha _ _ _);have b10:Am w10 vi 9 ((stL s t).map str).toArray:=by rw[HLs.out.1,<-tW,<-hT16];exact zv v5 9 #[.string (bs m1),.string (bs m2),.string (bs m3s),.string ⟨#[78,69,65,82,32,48,32,53]⟩,.string (bs m4),.string (bs m5s),.string (bs m6s)]
  have S0:Hid (TsS w3 X Y B N MX Cv vi (BX lO e x) lO (some x5) A5 L c5 x5.rk A7 c7 gs (stL s t) w10):=by
   have h5:=bQ.out;have hl5:=h5.1.lt;have h6:=ve.out;have h7:=HX7.out;have h8:=HD8.out;have g79:Ac w8 w10:=HX9.out.1.trans g10;have s7:=(h5.1.grew h6.1).grew (h7.2.1.trans GB.out);have e12:¬ (MX=X\/MX=Y):=by have:=h6.2.2.1;omega
   refine⟨h8.1.grew g79,((h7.2.2.2.grew GB.out).kept h8.2 e12).grew g79,((((h5.2.2.1.grew h6.1).grew (h7.2.1.trans GB.out)).sess s7 h8.2 ⟨h5.2.2.2.2.2.2.1,h5.2.2.2.2.2.2.2.1⟩).grew g79),⟨w6.heap.size,?_,h7.2.2.1⟩,HX9.out.2.grew g10,b10,?_,h5.2.2.2.2.2.2.1,h5.2.2.2.2.2.2.2.1,C_ h5.2.2.2.2.2.1 (C_ h6.1.size (C_ h7.2.1.size (C_ GB.out.size (C_ h8.2.size g79.size))))⟩
   ·exact(((h7.1:AO w7 w6.heap.size _ _).grew GB.out).kept h8.2 (λ j hj e=>by have:=(Ao h7.1 hj).1;have:=h7.2.2.1;omega)).grew g79
   ·exact((h5.2.2.2.2.2.2.2.2.trans (h6.1.trans (h7.2.1.trans GB.out))).then h8.2 (λ i hi e=>by have:=h5.2.2.2.2.2.2;omega)).trans g79
  have HI:=Gt bQ.out.2.1 bQ.out.2.2.2.1 bQ.out.2.2.2.2.1 ve.out.2.2.2 (Nl bQ.out.1);have vy:v5.alloc (.cells #[.string (bs m1),.string (bs m2),.string (bs m3s),.string ⟨#[78,69,65,82,32,48,32,53]⟩,.string (bs m4),.string (bs m5s),.string (bs m6s)] 9)=w10:=tW;clear GV0 GV1 GV2 GV3 GV4 GV5 ve HX7 HX9 HD8 GB bQ g10 b10 tW;go_wp2_with fail;clear vy e9 am1 am2 am3 am4 am5 am6 bm1 bm2 bm3 dm3 dm5 dm6 fm3 fm5 fm6 hT16 Eg;have e5:((IC 13).toList==[101,114,114,111,114,32,115,116,97,108,101])=true:=by rw[bn];rfl
  obtain⟨tx,Nq⟩:=zn (IC 13);rw[Nq]at e5;have HTx:=zh Nq;clear Nq;go_loopw [17] (λ v17 wr=>∃ k:Nat,k<=7/\v17=.int .i64 k/\Hid (TsS w3 X Y B N MX Cv vi (BX lO e x) lO (some x5) A5 L c5 x5.rk A7 c7 gs (stL s t) wr)) (λ v17 _=>7-(intOf v17).toNat)
  case atStart=>exact⟨0,by omega,rfl,S0⟩
  case round =>
   clear S0;obtain⟨k,hk,rfl,hS⟩:=hrel;by_cases AH:k<7
   ·obtain⟨l,hl,hLn⟩:=eT (X:=X) (Y:=Y) (B:=B) (hops:=3) (settles:=20) (N:=N) (es:=BX lO e x) (hx:=some x5) s t (by have:=HQ.out;omega) (by have:=HQ.out;omega) k AH;have HL:=zh (hLn hS.out.sess);unfold vh at HL;rw[HTx.out]at HL;have c0:=hS.out.lbox.cell k;rw[List.getElem?_toArray,List.getElem?_map,hl]at c0;simp only[Option.map_some]at c0;have k0:(0:Int)<=(k:Int):=(by omega);have k1:(k:Int)<7:=(by omega);clear hl hLn;go_wp2_with fail;refine HL.out.mono ?_;rintro r wx ⟨rfl,hs,kx⟩;have Ci:=zh (hS.out.did kx hs);clear HL hs kx c0 hS;go_wp2_with fail;go_roundw
    case rel=>exact⟨k+1,by omega,by go_num,Ci⟩
    case measure=>simp[intOf];omega
   ·obtain rfl:k=7:=(by omega);clear AH hk;obtain⟨es6,om⟩:=zn (BX lO e x);have dT:Aq N es6=0:=by rw[<- om];exact K7 HI.out.2.1 (by rw[HI.out.2.2.1];exact HQ.out.2.2.1) (by have:=HQ.out;omega)
    have hl6:es6.length=L:=by rw[<- om,BO];exact HI.out.2.2.1
    have hS':=hS.out;rw[om]at hS';have my:=zh (show L<=22 from by have:=HM.out;omega);have MU:=zh (FD (Af 1) [] Ik hS'.sess (by omega) dT (by rw[hl6];have:=my.out;omega) (by have:=HQ.out;omega) hS'.lt.2.2 KU (.inl rfl));have HS:=DS hS' dT hl6 om;obtain⟨c0,c1,c2,c3,c4⟩:=five hS'.sbox;have rM:=Mk;clear hS hS' dT hl6 om;go_wp2_with fail;refine MU.out.mono ?_;rintro r wb ⟨v,rfl,⟨g9,y,rfl,_,rS,hye,hyr⟩,kb⟩;have hO:=Nl rS;have hyl:y.rk.length=N:=hO.rlen;have hys:y.ss.length<=1000:=Nk hO HQ.out.2.2.2.2.1 (by rw[hye,HS.out.2.2.1];exact my.out);have hyk:y.rk=x5.rk:=by
     have e:Ix [] (some x5)=x5.rk:=rfl;rw[e]at hyr;rcases hyr with h | h
     ·exact h.symm
     ·exfalso;have h1:=HI.out.2.2.2.1;rw[h]at h1;have h2:=HQ.out.1;simp at h1;omega
    have cN:=zh (GX rS (by rw[hyl];have:=HQ.out;omega) (by omega));rw[hyk]at cN;have no:∀ (j:Nat) u ds,Am wr j u ds->u≠84->u≠115->¬ (j=X\/j=Y):=by
     intro j u ds hb n1 n2 e;obtain⟨left,done,s1,⟨Ak,ck,ev,hv,c0,c1,c2,s2⟩,s3⟩:=HS.out.1.sess;rcases e with e | e
     ·subst e;exact Ay hb s1 n1 rfl
     ·subst e;exact Ay hb s2.blk n2 rfl
    have gb:=HS.out.1.gbox.kept kb (no _ _ _ HS.out.1.gbox (by decide) (by decide));have AY:=HS.out.1.row.sess HS.out.1.sess kb ⟨HS.out.1.lt.1,HS.out.1.lt.2.1⟩;have IK:RowI wb A7 x5.rk:=by
     obtain⟨B6,h1,h2,h3⟩:=HS.out.1.rank;have h4:=h1.kept kb (λ j hj e=>by have:=(Ao h1 hj).1;omega);obtain⟨A',c',hv,hr⟩:=h4.row;injection hv with q _ _;rw[q];exact hr
    have GB:=JQ rS hye gb AY IK (HS.out.1.kept.then kb (λ i hi e=>by have:=HS.out.1.lt;omega));have HK:=BP HS.out.2 HI.out;clear MU rS hye hyr kb hO hyl hys hyk no gb AY IK c0 c1 c2 c3 c4 HS HI;go_wp2_with fail;refine cN.out.mono ?_;rintro r wc2 ⟨v2,rfl,Cr,g2⟩;obtain⟨A2,c2,GO,Kq⟩:=Cr.row;subst GO;have HSm:=zh (aN A2 A7 c2 c7 x5.rk wc2 Kq (GB.out.2.2.2.2.1.grew g2) (by rw[HK.out.2.2.2.2.1];have:=HQ.out;omega));rw[HK.out.2.2.2.2.1]at HSm;have G2:=zh g2;rw[HK.out.2.2.2.2.1];clear Cr Kq g2 cN;go_wp2_with fail;refine HSm.out.mono ?_;rintro r wd2 ⟨rfl,g3⟩;have G3:=zh (G2.out.trans g3);obtain⟨p0,p1⟩:=DW (GB.out.2.2.1.grew G3.out);have HWi:=zh (Jg (N:Int) A5 c5 lO e x wd2 (GB.out.2.2.2.1.1.grew G3.out) (by rw[HK.out.2.2.2.1];have:=my.out;omega) HK.out.2.2.1 (by rw[HK.out.2.2.2.1];exact HQ.out.2.2.1) (by have:=HQ.out;omega));rw[HK.out.2.2.2.1]at HWi;clear HSm g3 G2;go_wp2_with fail;refine HWi.out.mono ?_;rintro r we ⟨v3,rfl,rH,g4⟩;rw[HK.out.1.2.2]at rH;obtain⟨A3,c3,tU,zj⟩:=rH.row;rw[HK.out.1.2.1]at tU;subst tU;have xM:=GB.out.2.2.1.grew (G3.out.trans g4);have f0:=xM.frozen 0;obtain⟨z0,z1⟩:=CE xM;obtain⟨wy,hwy⟩:=zn ((we.setCell ⟨MX,0,none⟩ (.int .i64 (N:Int))).setCell ⟨MX,1,none⟩ (.slice A3 L c3));have f1:(we.setCell ⟨MX,0,none⟩ (.int .i64 (N:Int))).frozen? ⟨MX,1,none⟩=false:=(xM.set 0 _).frozen 1;have kT:Kept (λ j=>j=MX) we wy:=by rw[<- hwy];exact((zr (λ j=>j=MX) we).setCell (p:=⟨MX,0,none⟩) (.inl rfl) _).setCell (p:=⟨MX,1,none⟩) (.inl rfl) _
    have b12y:Am wy MX 24 #[i64 N,.slice A3 L c3]:=by
     rw[<- hwy];have:=(xM.set 0 (.int .i64 (N:Int))).set 1 (.slice A3 L c3);simpa using this
    obtain⟨y0,y1⟩:=DW b12y;have hrY:Bj wy A3 es6:=zj.kept kT (λ a ha e=>by
     subst ha;obtain⟨_,cur,LP⟩:=Ao rH (k:=a.block) rfl;exact Ay (show Am we a.block 65 cur from LP) xM (by decide) e)
    have sY:Au wy X Y B 3 20 2 N es6 (some y):=(GB.out.1.grew (G3.out.trans g4)).far kT (A8 xM (by decide));have gY:Ac w3 wy:=(GB.out.2.2.2.2.2.trans (G3.out.trans g4)).then kT (λ i hi e=>by have:=zAp.out;omega);have HAl:=zh (iO N A3 c3 es6 s wy hrY HK.out.1.1 (by have:=HQ.out;omega) HQ.out.1 (by rw[HK.out.1.2.1];have:=my.out;omega));rw[HK.out.1.2.1]at HAl;have HY:=DK sY gY GB.out.2.1;clear rH zj g4 xM kT b12y hrY sY gY HWi p0 p1;go_wp2_with fail;refine HAl.out.mono ?_;rintro r wf ⟨D,d,rfl,dI,hbe,g5⟩;have hdl:=hbe.len;obtain⟨z,hz⟩:=zx (l:=d) (i:=t) (by have:=HQ.out;omega);have cz:wf.cell? ⟨D,t,none⟩=some (u64 z):=by
     rw[dI.cell t];simp[hz]
    have DO:=Ox (s:=s) HK.out.1.1 (by have:=HQ.out;omega:N<=100);have Cj:=hbe.over DO.2.1 DO.2.2 DO.1 hz;have hzr:=hbe.le t z hz;have t0:(0:Int)<=(t:Int):=(by omega);have t1:(t:Int)<(N:Int):=by have:=HQ.out;omega
    have HZ:=DK Cj hzr g5;have fg:=zh (λ W=>OK s t (by have:=HQ.out;omega) (by have:=HQ.out;omega) W);rw[show 32::(dec s++32::dec t)=EN s t from rfl]at fg;have HDi:=zh (λ W (k:Ac wf W)=>di y s t ((HY.out.1.grew g5).grew k) HY.out.2.2 HK.out.1.1 (by have:=HQ.out;omega) (by rw[HK.out.1.2.1];have:=my.out;omega) HQ.out.1 HQ.out.2.1);rw[ic]at HDi;have hen:=nD (s:=s) (t:=t) (by have:=HQ.out;omega) (by have:=HQ.out;omega);obtain⟨en,hEn⟩:=zn (EN s t);rw[hEn]at fg hen HDi;obtain⟨m2,G7⟩:=zn ([68,73,83,84]++en);have am2:(⟨#[68,73,83,84]⟩:ByteArray)++bs en=bs m2:=by rw[<- G7];exact AI [68,73,83,84] _
    have bm2:¬ 9223372036854775807<4+(bs en).size:=by rw[AT];omega
    rw[G7]at HDi;clear HAl dI hbe g5 hdl hz DO Cj hzr hen hEn G7;go_wp2_with fail;refine(fg.out _).mono ?_;rintro r wg ⟨rfl,g6⟩;have G6:=zh g6;clear fg g6 cz;go_wp2_with fail;refine(HDi.out _ G6.out).mono ?_;rintro r wh ⟨v4,rfl,⟨hs9,hv4⟩,k9⟩;have GW:Hid (Ac w wh):=HT3.out.trans ((HY.out.2.1.trans (HZ.out.2.2.trans G6.out)).then k9 (λ i hi e=>by have:=rD.out;omega));clear HDi hs9 k9;rcases hv4 with ⟨g9',dd,hL9,hlt9,rfl,fO⟩ | ⟨Cx,rfl⟩
    ·obtain rfl:z=dd:=by
      rcases HZ.out.1 with ⟨h1,_⟩ | ⟨h1,_⟩
      ·exact ew h1 hL9
      ·exact absurd hL9.1 (h1 _)
     have nz1:¬ (4611686018427387904:Int)<=z:=by have:z<4611686018427387904:=hlt9;omega
     have nz2:z<4611686018427387904:=hlt9;have hb9':=zh fO;unfold Co;obtain⟨wz,O5⟩:=zn (wh.alloc (.cells #[i64 0,.string ⟨#[]⟩,.slice none 0 0,.slice none 0 0,.slice none 0 0] 42));obtain⟨sq,n6⟩:=zn (wh.heap.size);have gz:Ac wh wz:=by rw[<- O5];exact Ha _ _ _
     have bz:Am wz sq 42 #[i64 0,.string ⟨#[]⟩,.slice none 0 0,.slice none 0 0,.slice none 0 0]:=by rw[<- O5,<-n6];exact zv _ _ _
     obtain⟨wi,zD⟩:=zn (wz.setRow sq #[i64 0,str (Af 3),.slice (some ⟨g9',0,none⟩) 1 1,.slice none 0 0,.slice none 0 0]);have g7:Ac wh wi:=by rw[<- zD];exact gz.setRow (.inr (by rw[n6];exact zl _)) _
     have b19:Am wi sq 42 #[i64 0,str (Af 3),.slice (some ⟨g9',0,none⟩) 1 1,.slice none 0 0,.slice none 0 0]:=by rw[<- zD];exact bz.setRow _
     have HBZ:=zh bz;obtain⟨wj,hwj⟩:=zn (wi.alloc (.cells #[u64 z] 29));obtain⟨T20,hT20⟩:=zn (wi.heap.size);have g8:Ac wi wj:=by rw[<- hwj];exact Ha _ _ _
     have b20:Am wj T20 29 #[u64 z]:=by rw[<- hwj,<-hT20];exact zv _ _ _
     have xF:=zh (aQ (some ⟨g9',0,none⟩) (some ⟨T20,0,none⟩) 1 1 [z] wj (D4.blk (l:=[z]) ((hb9'.out.grew g7).grew g8)) (D4.blk (l:=[z]) b20) (by simp));rw[show [z].length=1 from rfl]at xF;obtain⟨c0,c1,c2,c3,c4⟩:=five b19;have ei:wh.alloc (.cells #[.int .i64 0,.string ⟨#[]⟩,.slice none 0 0,.slice none 0 0,.slice none 0 0] 42)=wz:=O5;have ej:wi.alloc (.cells #[.int .u64 z] 29)=wj:=hwj;have GF:=zh (GW.out.trans (g7.trans g8));clear O5 hwj g7 g8 b19 b20 fO hb9' HZ hL9 gz bz;go_wp2_with (refine wpList_store_rowTo rfl 42 (.tmp 19) (.tmp 167) rfl rfl sq #[i64 0,str (Af 3),.slice (some ⟨g9',0,none⟩) 1 1,.slice none 0 0,.slice none 0 0] (by rfl) (by rfl) 42 _ HBZ.out (by kernel_rfl) rfl (AF (by simp[F_])) ?_;rw[zD]);refine xF.out.mono ?_;rintro r wk ⟨rfl,g10⟩;have GK:=zh (GF.out.trans g10);clear xF g10;go_wp2_with fail;refine(HA.out _).mono ?_;rintro r wl ⟨rfl,g11⟩;have GL:=zh (GK.out.trans g11);clear g11;go_wp2_with fail;go_ret;exact⟨rfl,GL.out⟩
    ·obtain rfl:z=4611686018427387904:=by
      rcases HZ.out.1 with ⟨h1,_⟩ | ⟨_,h1⟩
      ·exact absurd h1.1 (Cx _)
      ·exact h1
     rw[dq];obtain⟨wz,O5⟩:=zn (wh.alloc (.cells #[i64 0,.string ⟨#[]⟩,.slice none 0 0,.slice none 0 0,.slice none 0 0] 42));obtain⟨sq,n6⟩:=zn (wh.heap.size);have gz:Ac wh wz:=by rw[<- O5];exact Ha _ _ _
     have bz:Am wz sq 42 #[i64 0,.string ⟨#[]⟩,.slice none 0 0,.slice none 0 0,.slice none 0 0]:=by rw[<- O5,<-n6];exact zv _ _ _
     obtain⟨wi,zD⟩:=zn (wz.setRow sq #[i64 9,.string ⟨#[]⟩,.slice none 0 0,.slice none 0 0,.slice none 0 0]);have g7:Ac wh wi:=by rw[<- zD];exact gz.setRow (.inr (by rw[n6];exact zl _)) _
     have b19:Am wi sq 42 #[i64 9,.string ⟨#[]⟩,.slice none 0 0,.slice none 0 0,.slice none 0 0]:=by rw[<- zD];exact bz.setRow _
     have HBZ:=zh bz;obtain⟨c0,c1,c2,c3,c4⟩:=five b19;have ei:wh.alloc (.cells #[.int .i64 0,.string ⟨#[]⟩,.slice none 0 0,.slice none 0 0,.slice none 0 0] 42)=wz:=O5;have GF:=zh (GW.out.trans g7);clear O5 b19 HZ Cx gz bz g7;go_wp2_with (refine wpList_store_rowTo rfl 42 (.tmp 19) (.tmp 167) rfl rfl sq #[i64 9,.string ⟨#[]⟩,.slice none 0 0,.slice none 0 0,.slice none 0 0] (by rfl) (by rfl) 42 _ HBZ.out (by kernel_rfl) rfl (AF (by simp[F_])) ?_;rw[zD]);refine(HA.out _).mono ?_;rintro r wl ⟨rfl,g11⟩;have GL:=zh (GF.out.trans g11);clear g11;go_wp2_with fail;go_ret;exact⟨rfl,GL.out⟩
 all_goals
  go_wp2_with fail
  refine(HA.out _).mono ?_
  rintro r wz ⟨rfl,gz⟩
  have HF:=zh (H3.out.1.trans gz)
  clear gz
  go_wp2_with fail
  go_ret
  exact⟨rfl,HF.out⟩
end Go.Proofs.YtepelooebggliaaGreatDoor
namespace Go.Proofs.YtepelooebggliaaGreatDoor
open Go.ChangeShapes Go.WideShapes Go.ChangeAt Go.RowKit Go.Deep Go.Joins
theorem bridge_topStale {H:Type} {enc:TypeId×Value->H} {base:Nat} {v0 v1 v2 v3 v4:Value} {d0 d1 d2 d3 d4:DataW H} {p0 p1 p2 p3 p4:List MemPlace} (w:World) (o0:E_ A_ w .any base 28 v0) (h0:G_ enc A_ w 0 (λ _=>true) true 28 v0 d0 p0) (o1:E_ A_ w .any base 3 v1) (h1:G_ enc A_ w 0 (λ _=>true) true 3 v1 d1 p1)
  (o2:E_ A_ w .any base 29 v2) (h2:G_ enc A_ w 0 (λ _=>true) true 29 v2 d2 p2) (o3:E_ A_ w .any base 3 v3) (h3:G_ enc A_ w 0 (λ _=>true) true 3 v3 d3 p3) (o4:E_ A_ w .any base 3 v4) (h4:G_ enc A_ w 0 (λ _=>true) true 3 v4 d4 p4) :
  Calls A_ 3 #[v0,v1,v2,v3,v4] w λ e w'=>e=.returned (.bool true)/\Below w.heap.size w w':=by
 obtain⟨n,AE,cE,es,AL,cL,cs,AR,cR,rk,rfl,hE,hC,hR,hl,hx⟩:=pL o0 h0
 obtain⟨a1,rfl,rfl,rfl,w1⟩:=open_int B_ o1 h1
 obtain⟨a2,rfl,rfl,rfl,w2⟩:=open_int Tryz.underlying29 o2 h2
 obtain⟨a3,rfl,rfl,rfl,w3⟩:=open_int B_ o3 h3
 obtain⟨a4,rfl,rfl,rfl,w4⟩:=open_int B_ o4 h4
 exact(topStale_any n AE AL AR cE cL cR es cs rk a1 a2 a3 a4 w hE hC hR hl hx).mono λ e w' h=>⟨h.1,h.2.below⟩
end Go.Proofs.YtepelooebggliaaGreatDoor
