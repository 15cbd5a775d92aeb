/- Walks of functions that the law reaches, and plain laws, part 20 of 20: lemmas for the proof in the last text; no condition. Shortened by program. -/
import Derived.Test.YtepelooebggliaaGreatDoorOv0
import Derived.Test.YtepelooebggliaaGreatDoorOv13
import Derived.Test.YtepelooebggliaaGreatDoorOv16
import Derived.Test.YtepelooebggliaaGreatDoorOv17
import Derived.Test.YtepelooebggliaaGreatDoorOv18
open Go.Proofs.Tryz renaming prog->A_
set_option maxHeartbeats 16000000
set_option maxRecDepth 100000
set_option linter.unusedVariables false
set_option linter.unusedSimpArgs false
namespace Go.Proofs.YtepelooebggliaaGreatDoor
open Go.RowKit
theorem kU:Az (Bw (Am 12) [] [])=[111,107,32,81,85,73,84]:=rfl
theorem el {w:World} {X Y B:Nat} {Ah Ac:Int} {ph N:Nat} {es:List AJ} {hx:Option Hx} (h:AB w X Y B Ah Ac ph N es hx):Calls A_ 22 #[pt X] w λ e w'=>e=.returned (i64 ph)/\w=w':=by
 obtain⟨left,done,L9,⟨Ak,ck,ev,hv,c0,c1,c2,hE⟩,_⟩:=h;exact Ex ph L9 hE.blk
def rZ (w:World) (X Y B N:Nat) (es:List AJ) (hx:Option Hx) (wr:World):Prop:=AB wr X Y B 3 20 4 N es hx/\Af w wr/\B<=wr.heap.size/\w.heap.size<=X/\w.heap.size<=Y
theorem rZ.did {w wr wx:World} {X Y B N:Nat} {es:List AJ} {hx:Option Hx} (h:rZ w X Y B N es hx wr) (hs:AB wx X Y B 3 20 4 N es hx) (k:Kept (λ j=>j=X\/j=Y) wr wx):rZ w X Y B N es hx wx :=
 ⟨hs,h.2.1.then k (λ i hi e=>by have:=h.2.2.2;omega),Nat.le_trans h.2.2.1 k.size,h.2.2.2⟩
theorem rZ.grew {w wr wx:World} {X Y B N:Nat} {es:List AJ} {hx:Option Hx} (h:rZ w X Y B N es hx wr) (k:Af wr wx):rZ w X Y B N es hx wx:=h.did (h.1.grew k) (Af.kept k)
theorem LU (k:Int):BN k=.agg #[i64 k,.string ⟨#[]⟩,.slice none 0 0,.slice none 0 0,.slice none 0 0]:=rfl
theorem topOver_any (n:Int) (AE AL AR A:Option Addr) (cE cL cR c:Nat) (es:List AJ) (cs:List uA) (rk:List Int) (ls:List (List UInt8)) (w:World) (hE:Bo w AE es) (hC:cd w AL cs) (hR:RowI w AR rk) (hT:B8 w A ls) (hm:es.length<=9223372036854775807) (hx:∀ c∈cs,c.2<18446744073709551616) :
  Calls A_ 4 #[.agg #[i64 n,.slice AE es.length cE,.slice AL cs.length cL,.slice AR rk.length cR],.slice A ls.length c] w λ e w'=>e=.returned (.bool true)/\Af w w':=by
 obtain⟨T,hsT⟩:=zn (w.heap.size)
 obtain⟨w1,AT,g1,b0⟩:=zb w #[i64 n,.slice AE es.length cE,.slice AL cs.length cL,.slice AR rk.length cR] 28 hsT
 have HL:=zh (jJ n AE AL AR es.length cE cs.length cL rk.length cR w1 hm)
 have HA:=zh ik
 obtain⟨lb,Gs⟩:=zn (Kl n es.length cs.length rk.length)
 rw[Gs]at HL
 have H0:=Fo (hE.grew g1) (hC.grew g1) (RowI.grew hR g1) (B8.grew hT g1) hx
 obtain⟨L,hL⟩:=zn (es.length)
 obtain⟨M,hM⟩:=zn (cs.length)
 obtain⟨R,iV⟩:=zn (rk.length)
 obtain⟨K,hK⟩:=zn (ls.length)
 have HN:=Em hL hM iV hK
 have HG:=BO g1 b0
 rw[hL,hM,iV]at HL AT HG b0 Gs
 rw[hL,hM,iV,hK]
 have x0:=b0.cell 0
 have x1:=b0.cell 1
 have x2:=b0.cell 2
 have x3:=b0.cell 3
 simp at x0 x1 x2 x3
 have e0:w.alloc (.cells #[.int .i64 n,.slice AE L cE,.slice AL M cL,.slice AR R cR] 28)=w1:=AT
 have HLb:=zh Gs
 have H0w:=zh hT
 clear g1 b0 AT hE hC hR hT hx hL hM iV hK hm Gs
 go_enter Tryz.func4,Tryz.ntmps4
 go_wp2_with fail
 refine HL.out.mono ?_
 rintro e w2 ⟨rfl,g2⟩
 have H2:=BO (HG.out.1.trans g2) (HG.out.2.grew g2)
 have wC:=Fo (H0.out.1.grew g2) (H0.out.2.1.grew g2) (H0.out.2.2.1.grew g2) (H0.out.2.2.2.1.grew g2) H0.out.2.2.2.2
 clear HL g2 HG H0 x0 x1 x2 x3
 cases lb
 ·go_wp2_with fail;refine(HA.out _).mono ?_;rintro e w3 ⟨rfl,g3⟩;have HF:=zh (H2.out.1.trans g3);clear g3;go_wp2_with fail;go_ret;exact⟨rfl,HF.out⟩
 have sQ:(n<=7\/4096<n)/\L<=22/\M<=20/\R<=60:=by
  have h:=HLb.out;simp[Kl,jD,jC]at h;omega
 have HRt:=zh (D7 n AE cE es w2 wC.out.1 (by rw[HN.out.1];omega))
 obtain⟨rf,Lk⟩:=zn (Au n es)
 rw[Lk,HN.out.1]at HRt
 have HRf:=zh Lk
 obtain⟨x0,x1,x2,x3⟩:_/\_/\_/\_:=⟨H2.out.2.cell 0,H2.out.2.cell 1,H2.out.2.cell 2,H2.out.2.cell 3⟩
 simp at x0 x1 x2 x3
 have H22:=zh sQ
 clear sQ Lk
 go_wp2_with fail
 refine HRt.out.mono ?_
 rintro e w3 ⟨rfl,g3⟩
 have H3:=BO (H2.out.1.trans g3) (H2.out.2.grew g3)
 have wE:=Fo (wC.out.1.grew g3) (wC.out.2.1.grew g3) (wC.out.2.2.1.grew g3) (wC.out.2.2.2.1.grew g3) wC.out.2.2.2.2
 clear HRt g3 H2 wC x0 x1 x2 x3
 have HLs:=zh (tI A c ls w3 wE.out.2.2.2.1)
 rw[HN.out.2.2.2]at HLs
 by_cases Lk:rf=0
 ·subst Lk;go_wp2_with fail;refine HLs.out.mono ?_;rintro e w4 ⟨lw,rfl,hlw,g4⟩;have H4:=BO (H3.out.1.trans g4) (H3.out.2.grew g4);have zP:=Fo (wE.out.1.grew g4) (wE.out.2.1.grew g4) (wE.out.2.2.1.grew g4) (wE.out.2.2.2.1.grew g4) wE.out.2.2.2.2;clear HLs g4 H3 wE;cases lw
  ·clear hlw;go_wp2_with fail;refine(HA.out _).mono ?_;rintro e wz ⟨rfl,gz⟩;have HF:=zh (H4.out.1.trans gz);clear gz;go_wp2_with fail;go_ret;exact⟨rfl,HF.out⟩
  have hlw:=hlw rfl;obtain⟨N,rfl⟩:∃ N:Nat,n=(N:Int):=by
   have:=right_zero HRf.out;exact⟨n.toNat,by omega⟩
  have hN7:N<=7:=by
   have:=right_zero HRf.out;have:=H22.out.1;omega
  have HBg:=zh (cy w4 N AE AL AR cE cL cR es cs rk zP.out.1 zP.out.2.1 zP.out.2.2.1 HRf.out hN7 (by rw[HN.out.1];exact H22.out.2.1) (by rw[HN.out.2.1];exact H22.out.2.2.1) (by rw[HN.out.2.2.1];exact H22.out.2.2.2) zP.out.2.2.2.2);rw[HN.out.1,HN.out.2.1,HN.out.2.2.1]at HBg;obtain⟨x0,x1,x2,x3⟩:_/\_/\_/\_:=⟨H4.out.2.cell 0,H4.out.2.cell 1,H4.out.2.cell 2,H4.out.2.cell 3⟩;simp at x0 x1 x2 x3;have hK30:(K:Int)<=30:=(by omega);go_wp2_with fail;refine HBg.out.mono ?_;rintro e w5 ⟨X,Y,B,A5,c5,x5,rfl,lJ,-,-,-,-,hB5,hX5,hY5,g5,-⟩;obtain⟨es5,hes5⟩:=zn (Le es cs);rw[hes5]at lJ;have hz4:=H4.out.1.size;have HT5:=zh (B8.grew zP.out.2.2.2.1 g5);have HS5:=Fo lJ (H4.out.1.trans g5) hB5 (Nat.le_trans hz4 hX5) (Nat.le_trans hz4 hY5);clear HBg lJ hB5 hX5 hY5 g5 hz4 hes5 zP H4 x0 x1 x2 x3 hlw hN7;obtain⟨w6,lM,g6⟩:=zg w5 (.cells #[i64 N,.slice A5 L c5] 24);have hq:=M8 (HS5.out.1.grew g6) (by omega);obtain⟨a1,sV⟩:=zn (Az (Bw (Am 12) [] []));have e1:((bs a1).toList==[111,107,32,81,85,73,84])=true:=by rw[Ax,<-sV,kU];rfl
  rw[sV,show Am 12=[81,85,73,84] from rfl]at hq;have HQ:=zh hq;have e6:w5.alloc (.cells #[.int .i64 (N:Int),.slice A5 L c5] 24)=w6:=lM;have HT6:=BO (HT5.out.grew g6) g6;clear hq sV lM g6;go_wp2_with fail;refine HQ.out.mono ?_;rintro e w7 ⟨rfl,hs7,k7⟩;have HO:Hid (rZ w X Y B N es5 (some x5) w7):=by
   have h5:=HS5.out;have hz6:=HT6.out.2.size;exact⟨hs7,(h5.2.1.trans HT6.out.2).then k7 (λ i hi e=>by omega),by have:=k7.size;omega,h5.2.2.2⟩
  have hXb:=hs7.lt;have HT7:Hid (∀ wr,rZ w X Y B N es5 (some x5) wr->B8 wr A ls):=zh λ wr h=>(H0w.out).grew h.2.1;clear HQ hs7 k7 HS5 HT5 HT6 hXb;go_wp2_with fail;go_loopw [8] (λ v8 wr=>∃ k:Nat,k<=K/\v8=.int .i64 k/\Hid (rZ w X Y B N es5 (some x5) wr)) (λ v8 _=>K-(intOf v8).toNat)
  case atStart=>exact⟨0,by omega,rfl,HO⟩
  case round =>
   clear HO;obtain⟨k,hk,rfl,hS⟩:=hrel;by_cases AI:k<K
   ·have k0:(0:Int)<=(k:Int):=(by omega);have k1:(k:Int)<(K:Int):=(by omega);obtain⟨y,hy⟩:=zx (l:=ls) (i:=k) (by rw[HN.out.2.2.2];exact AI);obtain⟨b,off,hA,hb,hcy⟩:=(HT7.out wr hS.out) k y hy;subst hA;have HD:=zh (sB (bs y) hS.out.1);clear hy hb;go_wp2_with fail;refine HD.out.mono ?_;rintro e w8 ⟨rfl,hs8,k8⟩;have S8:=zh (hS.out.did hs8 (k8.mono λ _ _ h=>.inl h));have bV:=zh (pz 14 [] none none none 0 0 0 0 0 0 w8);have HSm:=zh (λ W=>eh 14 W);clear HD hs8 k8 hcy;rw[LU];go_wp2_with fail;refine bV.out.mono ?_;rintro e w9 ⟨rfl,g9⟩;have S9:=zh (S8.out.grew g9);clear bV g9 S8;go_wp2_with (refine wpList_buildTo rfl 58 _ rfl (some 50) rfl #[i64 14,.string ⟨#[]⟩,.slice none 0 0,.slice none 0 0,.slice none 0 0] (by as_aux_lemma=>kernel_rfl) ?_);have Jd:=HSm.out w9;rw[LU]at Jd;refine Jd.mono ?_;rintro e wa ⟨rfl,ga⟩;have Sa:=zh (S9.out.grew ga);have HPh:=zh (el Sa.out.1);clear Jd HSm ga S9;go_wp2_with fail;refine HPh.out.mono ?_;rintro e wb ⟨rfl,rfl⟩;clear HPh;go_wp2_with fail;go_roundw
    case rel=>exact⟨k+1,by omega,by go_num,Sa⟩
    case measure=>simp[intOf];omega
   ·obtain rfl:k=K:=(by omega);have HR:=zh (kC hS.out.1 (by omega) (by omega));go_wp2_with fail;refine HR.out.mono ?_;rintro e w8 ⟨rfl,hs8,g8⟩;have H8:=zh (hS.out.2.1.trans g8);clear HR hs8 g8;go_wp2_with fail;refine(HA.out _).mono ?_;rintro e wz ⟨rfl,gz⟩;have HF:=zh (H8.out.trans gz);clear gz;go_wp2_with fail;go_ret;exact⟨rfl,HF.out⟩
 ·have fz:((rf:Int) != 0)=true:=(by simpa using Lk);clear Lk HLs;go_wp2_with fail;refine(HA.out _).mono ?_;rintro e wz ⟨rfl,gz⟩;have HF:=zh (H3.out.1.trans gz);clear gz;go_wp2_with fail;go_ret;exact⟨rfl,HF.out⟩
end Go.Proofs.YtepelooebggliaaGreatDoor
namespace Go.Proofs.YtepelooebggliaaGreatDoor
open Go.ChangeShapes Go.WideShapes Go.ChangeAt Go.RowKit Go.Deep Go.Joins
theorem bridge_topOver {H:Type} {enc:TypeId×Value->H} {base:Nat} {v0 v1:Value} {d0 d1:DataW H} {p0 p1:List MemPlace} (w:World) (o0:Value.okWide A_ w .any base 28 v0) (h0:DataW.Trod enc A_ w 0 (λ _=>true) true 28 v0 d0 p0) (o1:Value.okWide A_ w .any base 40 v1) (h1:DataW.Trod enc A_ w 0 (λ _=>true) true 40 v1 d1 p1) :
  Calls A_ 4 #[v0,v1] w λ e w'=>e=.returned (.bool true)/\Below w.heap.size w w':=by
 obtain⟨n,AE,cE,es,AL,cL,cs,AR,cR,rk,rfl,hE,hC,hR,hl,hx⟩:=pB o0 h0
 obtain⟨A,c,ls,rfl,hT⟩:=dS o1 h1
 exact(topOver_any n AE AL AR A cE cL cR c es cs rk ls w hE hC hR hT hl hx).mono λ e w' h=>⟨h.1,h.2.below⟩
end Go.Proofs.YtepelooebggliaaGreatDoor
