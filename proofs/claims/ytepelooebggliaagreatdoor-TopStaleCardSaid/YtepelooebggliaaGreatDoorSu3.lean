/- Walks of functions that the law reaches, and plain laws, part 4 of 21: lemmas for the proof in the last text; no condition. Shortened by program. -/
import Derived.IntWalk
import Derived.WideKeyPair
import Derived.RegionTactic
import Derived.Deep.DeepCutAuto
import Derived.Lib.SliceRun
import Derived.Test.YtepelooebggliaaGreatDoorSu0
open Bool renaming false_eq_true->A_
open Go.Proofs.Tryz renaming prog->B_,ntmps135->C_,ntmps252->D_,func135->E_,func252->F_,ntmps321->G_,func321->H_,ntmps185->I_,ntmps189->J_,underlying349->K_,func185->L_,func189->M_,underlying3->N_,results193->O_,ntmps186->Pa,ntmps188->Pb,ntmps390->Pc,ntmps193->Pd,func186->Pe,func188->Pf,func390->Pg,func193->Ph,underlying239->Pj,underlying22->Pk
open Go renaming World->Pm,Addr->Pn,Calls->Po,Value->Pp
open Int renaming eq_ofNat_of_zero_le->Pq,lt_or_le->Pr,toNat_natCast->Ps
open Go.World renaming size_alloc->Pt,ownsRow->Pu
open Go.RowKit renaming Hid->Pv
open List renaming getD_eq_getElem?_getD->Pw,all_eq_true->Px,take_of_length_le->Py,take_add_one->Pz,mem_append->PA,getElem?_eq_some_iff->PB,getElem?_cons_zero->PC,getElem?_cons_succ->PD,take_append_drop->PE,nodup_append->PF,length_take->PG,takeWhile->PH
open Go.IntKind renaming u64->PI,min->PJ,max->PK
open Nat renaming lt_of_lt_of_le->PL
open Go.Instr renaming lookup->PM,mapUpdate->PN
set_option maxHeartbeats 16000000
set_option maxRecDepth 100000
set_option linter.unusedVariables false
set_option linter.unusedSimpArgs false
namespace Go.Proofs.YtepelooebggliaaGreatDoor
open Go.RowKit
theorem pJ (n:Int) (A:Option Pn) (L c:Nat) (v:Int) (w:Pm):Po B_ 186 #[.agg #[i64 n,.slice A L c],i64 v] w λ e w'=>e=.returned (.bool (decide (0<=v/\v<n)))/\Ac w w':=by
 have hk:Ac w (w.alloc (.cells #[i64 n,.slice A L c] 24)):=(zr _ _).alloc _;rcases Pr v 0 with h1 | h1
 ·have hr:decide (0<=v/\v<n)=false:=zf (by omega);rw[hr];clear hr;have h2:¬ 0<=v:=(by omega);go_enter Pe,Pa;go_wp2_with fail;go_ret;exact⟨rfl,hk⟩
 ·rcases Pr v n with h2 | h2
  ·have hr:decide (0<=v/\v<n)=true:=zt (by omega);rw[hr];clear hr;go_enter Pe,Pa;go_wp2_with fail;go_ret;exact⟨rfl,hk⟩
  ·have hr:decide (0<=v/\v<n)=false:=zf (by omega);rw[hr];clear hr;have h3:¬ v<n:=(by omega);go_enter Pe,Pa;go_wp2_with fail;go_ret;exact⟨by simp,hk⟩
theorem GY (v:Int) (w:Pm):Po B_ 188 #[u64 v] w λ e w'=>e=.returned (.bool (decide (1<=v/\v<=4294967296)))/\w=w':=by
 rcases Pr v 1 with h1 | h1
 ·have hr:decide (1<=v/\v<=4294967296)=false:=zf (by omega);rw[hr];clear hr;have h2:¬ 1<=v:=(by omega);go_enter Pf,Pb;go_wp2_with fail;go_ret;exact⟨rfl,rfl⟩
 ·rcases Pr 4294967296 v with h2 | h2
  ·have hr:decide (1<=v/\v<=4294967296)=false:=zf (by omega);rw[hr];clear hr;have h3:¬ v<=4294967296:=(by omega);go_enter Pf,Pb;go_wp2_with fail;go_ret;exact⟨by simp,rfl⟩
  ·have hr:decide (1<=v/\v<=4294967296)=true:=zt (by omega);rw[hr];clear hr;go_enter Pf,Pb;go_wp2_with fail;go_ret;exact⟨rfl,rfl⟩
theorem kg (n p q r:Int) (A:Option Pn) (L c G:Nat) (w:Pm) (hB:Am w G 24 #[i64 n,.slice A L c]) :
  Po B_ 185 #[.agg #[i64 p,i64 q,u64 r],pt G] w λ e w'=>e=.returned (.bool (!AU n (p,q,r)))/\Ac w w':=by
 have b1:Am (w.alloc (.cells #[i64 p,i64 q,u64 r] 65)) G 24 #[i64 n,.slice A L c]:=hB.alloc _
 have bE:=zv w 65 #[i64 p,i64 q,u64 r]
 have hK:Ac w (w.alloc (.cells #[i64 p,i64 q,u64 r] 65)):=(zr _ _).alloc _
 have e0:=bE.cell 0
 have e1:=bE.cell 1
 have g0:=b1.cell 0
 have g1:=b1.cell 1
 simp at e0 e1 g0 g1
 have hN:=zh (λ v W=>pJ n A L c v W)
 by_cases hp:0<=p/\p<n
 ·have dR:Pv (decide (0<=p/\p<n)=true):=zt hp;by_cases hq:0<=q/\q<n
  ·have jG:Pv (decide (0<=q/\q<n)=true):=zt hq;by_cases Gh:p=q
   ·have hr:Pv (AU n (p,q,r)=false):=by show _=_;simp[AU,Gh]
    have hb:(p==q)=true:=(by simpa using Gh);clear hp hq Gh;go_enter L_,I_;go_wp2_with fail;refine(hN.out _ _).mono ?_;rintro e w1 ⟨rfl,k1⟩;rw[dR.out];replace b1:=b1.grew k1;replace bE:=bE.grew k1;replace e0:=bE.cell 0;replace e1:=bE.cell 1;replace g0:=b1.cell 0;replace g1:=b1.cell 1;simp at e0 e1 g0 g1;go_wp2_with fail;refine(hN.out _ _).mono ?_;rintro e w2 ⟨rfl,k2⟩;rw[jG.out];replace bE:=bE.grew k2;replace e0:=bE.cell 0;replace e1:=bE.cell 1;simp at e0 e1;go_wp2_with fail;go_ret;rw[hr.out];exact⟨rfl,(hK.trans k1).trans k2⟩
   ·have hr:Pv (AU n (p,q,r)=true):=by show _=_;simp[AU,dR.out,jG.out,Gh]
    have hb:(p==q)=false:=(by simpa using Gh);clear hp hq Gh;go_enter L_,I_;go_wp2_with fail;refine(hN.out _ _).mono ?_;rintro e w1 ⟨rfl,k1⟩;rw[dR.out];replace b1:=b1.grew k1;replace bE:=bE.grew k1;replace e0:=bE.cell 0;replace e1:=bE.cell 1;replace g0:=b1.cell 0;replace g1:=b1.cell 1;simp at e0 e1 g0 g1;go_wp2_with fail;refine(hN.out _ _).mono ?_;rintro e w2 ⟨rfl,k2⟩;rw[jG.out];replace bE:=bE.grew k2;replace e0:=bE.cell 0;replace e1:=bE.cell 1;simp at e0 e1;go_wp2_with fail;go_ret;rw[hr.out];exact⟨rfl,(hK.trans k1).trans k2⟩
  ·have jG:Pv (decide (0<=q/\q<n)=false):=zf hq;have hr:Pv (AU n (p,q,r)=false):=by show _=_;simp[AU,jG.out]
   clear hp hq;go_enter L_,I_;go_wp2_with fail;refine(hN.out _ _).mono ?_;rintro e w1 ⟨rfl,k1⟩;rw[dR.out];replace b1:=b1.grew k1;replace bE:=bE.grew k1;replace e0:=bE.cell 0;replace e1:=bE.cell 1;replace g0:=b1.cell 0;replace g1:=b1.cell 1;simp at e0 e1 g0 g1;go_wp2_with fail;refine(hN.out _ _).mono ?_;rintro e w2 ⟨rfl,k2⟩;rw[jG.out];go_wp2_with fail;go_ret;rw[hr.out];exact⟨rfl,(hK.trans k1).trans k2⟩
 ·have dR:Pv (decide (0<=p/\p<n)=false):=zf hp;have hr:Pv (AU n (p,q,r)=false):=by show _=_;simp[AU,dR.out]
  clear hp;go_enter L_,I_;go_wp2_with fail;refine(hN.out _ _).mono ?_;rintro e w1 ⟨rfl,k1⟩;rw[dR.out];go_wp2_with fail;go_ret;rw[hr.out];exact⟨rfl,hK.trans k1⟩
theorem jw (p q r:Int) (w:Pm):Po B_ 187 #[.agg #[i64 p,i64 q,u64 r]] w λ e w'=>e=.returned (.bool (!G9 (p,q,r)))/\Ac w w':=by
 have bE:=zv w 65 #[i64 p,i64 q,u64 r];have hK:Ac w (w.alloc (.cells #[i64 p,i64 q,u64 r] 65)):=(zr _ _).alloc _;have hN:Pv (∀ W,Po B_ 188 #[u64 r] W λ e w'=>e=.returned (.bool (G9 (p,q,r)))/\W=w'):=λ W=>GY r W;have e2:=bE.cell 2;simp at e2;go_enter Tryz.func187,Tryz.ntmps187;go_wp2_with fail;refine(hN.out _).mono ?_;rintro e w1 ⟨rfl,rfl⟩;go_wp2_with fail;go_ret;exact⟨rfl,hK⟩
def Kv (ok:AB->Bool) (es:List AB):Int:=if es.all ok=true then -1 else ((es.takeWhile ok).length:Int)
theorem FZ {ok:AB->Bool} {es:List AB} (h:es.all ok=true):Kv ok es=-1:=if_pos h
theorem Io (ok:AB->Bool):∀ (es:List AB) (k:Nat) (e:AB),(es.take k).all ok=true->es[k]? = some e->ok e=false->(es.takeWhile ok).length=k
 | [],k,e,_,h,_=>by simp at h
 | x::es,0,e,_,h,ho=>by
  simp only[PC,Option.some.injEq]at h;subst h;simp[PH,ho]
 | x::es,k+1,e,hk,h,ho=>by
  simp only[List.take_succ_cons,List.all_cons,Bool.and_eq_true]at hk;rw[PD]at h;simp[PH,hk.1,Io ok es k e hk.2 h ho]
theorem fZ {ok:AB->Bool} {es:List AB} {k:Nat} {e:AB} (hk:(es.take k).all ok=true) (h:es[k]? = some e) (ho:ok e=false):Kv ok es=k:=by
 unfold Kv;rw[if_neg (by rw[FB h ho];simp),Io ok es k e hk h ho]
theorem O7 (n:Int) (A0:Option Pn) (L0 c0 G:Nat) (A:Option Pn) (c:Nat) (es:List AB) (w:Pm) (hB:Am w G 24 #[i64 n,.slice A0 L0 c0]) (h:Bj w A es) (hl:es.length<=100000) :
  Po B_ 246 #[.slice A es.length c,.func (.func 185) #[] #[pt G]] w λ e w'=>e=.returned (i64 (Kv (AU n) es))/\Ac w w':=by
 obtain⟨L,hL⟩:=zn (es.length)
 have HL:=zh hL
 rw[hL]at hl
 rw[hL]
 clear hL
 have hE:=zh h
 clear h
 have Fj:Ac w w:=zr _ _
 go_enter Tryz.func246,Tryz.ntmps246
 go_wp2_with fail
 go_loopw [5,8] (λ u i wr=>∃ (k:Nat),k<=L/\i=.int .i64 k/\Pv ((es.take k).all (AU n)=true)/\Am wr G 24 #[i64 n,.slice A0 L0 c0]/\Pv (Bj wr A es)/\Ac w wr) (λ u i _=>L-(intOf i).toNat)
 case atStart=>exact⟨0,by omega,rfl,rfl,hB,hE,Fj⟩
 case round =>
  clear hE Fj hB;rename_i wr _ _;obtain⟨k,hk,rfl,hS,hB,hE,hK⟩:=hrel;by_cases AH:k<L
  ·obtain⟨x,hx⟩:=zx (l:=es) (i:=k) (by rw[HL.out];exact AH);obtain⟨b,off,Nb,hb,e0,e1,e2⟩:=hE.out k x hx;have HX:=zh hx;clear hx;subst Nb;obtain⟨p,q,r⟩:=x;have hC:=zh (kg n p q r A0 L0 c0 G wr hB);go_wp2_with fail;refine(hC.out).mono ?_;rintro e w1 ⟨rfl,k1⟩;by_cases ho:(AU n) (p,q,r)=true
   ·have Ci:Pv ((es.take (k+1)).all (AU n)=true):=Hi hS.out HX.out ho;rw[ho];clear ho;go_wp2_with fail;go_roundw
    case rel=>exact⟨k+1,by omega,by go_num,Ci,hB.grew k1,zh (hE.out.grew k1),hK.trans k1⟩
    case measure=>simp[intOf];omega
   ·have II:(AU n) (p,q,r)=false:=(by simpa using ho);have hr:Pv (Kv (AU n) es=k):=fZ hS.out HX.out II;rw[II];clear ho II;go_wp2_with fail;go_ret;rw[hr.out];exact⟨rfl,hK.trans k1⟩
  ·obtain rfl:k=L:=(by omega);have hr:Pv (Kv (AU n) es=-1):=by
    have h:=hS.out
    rw[Py (by rw[HL.out];exact zl _)]at h
    exact FZ h
   go_wp2_with fail;go_ret;rw[hr.out];exact⟨rfl,hK⟩
theorem J8 (n:Int) (A0:Option Pn) (L0 c0 G:Nat) (A:Option Pn) (c:Nat) (es:List AB) (w:Pm) (hB:Am w G 24 #[i64 n,.slice A0 L0 c0]) (h:Bj w A es) (hl:es.length<=100000) :
  Po B_ 189 #[.slice A es.length c,.func (.func 185) #[] #[pt G]] w λ e w'=>e=.returned (.bool (!es.all (AU n)))/\Ac w w':=by
 have hC:=zh (O7 n A0 L0 c0 G A c es w hB h hl)
 by_cases ho:es.all (AU n)=true
 ·have hr:=FZ ho;rw[hr]at hC;rw[ho];clear hr ho h;go_enter M_,J_;go_wp2_with fail;refine hC.out.mono ?_;rintro e w1 ⟨rfl,k1⟩;go_wp2_with fail;go_ret;exact⟨rfl,k1⟩
 ·have II:es.all (AU n)=false:=(by simpa using ho);obtain⟨m,hm⟩:∃ m:Nat,Kv (AU n) es=m:=⟨_,if_neg ho⟩;rw[hm]at hC;rw[II];clear hm ho II h;have jE:(0:Int)<=(m:Int):=(by omega);go_enter M_,J_;go_wp2_with fail;refine hC.out.mono ?_;rintro e w1 ⟨rfl,k1⟩;go_wp2_with fail;go_ret;exact⟨rfl,k1⟩
theorem O6 (A:Option Pn) (c:Nat) (es:List AB) (w:Pm) (h:Bj w A es) (hl:es.length<=100000) :
  Po B_ 246 #[.slice A es.length c,.func (.func 187) #[] #[]] w λ e w'=>e=.returned (i64 (Kv G9 es))/\Ac w w':=by
 obtain⟨L,hL⟩:=zn (es.length)
 have HL:=zh hL
 rw[hL]at hl
 rw[hL]
 clear hL
 have hE:=zh h
 clear h
 have Fj:Ac w w:=zr _ _
 go_enter Tryz.func246,Tryz.ntmps246
 go_wp2_with fail
 go_loopw [5,8] (λ u i wr=>∃ (k:Nat),k<=L/\i=.int .i64 k/\Pv ((es.take k).all G9=true)/\Pv (Bj wr A es)/\Ac w wr) (λ u i _=>L-(intOf i).toNat)
 case atStart=>exact⟨0,by omega,rfl,rfl,hE,Fj⟩
 case round =>
  clear hE Fj;rename_i wr _ _;obtain⟨k,hk,rfl,hS,hE,hK⟩:=hrel;by_cases AH:k<L
  ·obtain⟨x,hx⟩:=zx (l:=es) (i:=k) (by rw[HL.out];exact AH);obtain⟨b,off,Nb,hb,e0,e1,e2⟩:=hE.out k x hx;have HX:=zh hx;clear hx;subst Nb;obtain⟨p,q,r⟩:=x;have hC:=zh (jw p q r wr);go_wp2_with fail;refine(hC.out).mono ?_;rintro e w1 ⟨rfl,k1⟩;by_cases ho:G9 (p,q,r)=true
   ·have Ci:Pv ((es.take (k+1)).all G9=true):=Hi hS.out HX.out ho;rw[ho];clear ho;go_wp2_with fail;go_roundw
    case rel=>exact⟨k+1,by omega,by go_num,Ci,zh (hE.out.grew k1),hK.trans k1⟩
    case measure=>simp[intOf];omega
   ·have II:G9 (p,q,r)=false:=(by simpa using ho);have hr:Pv (Kv G9 es=k):=fZ hS.out HX.out II;rw[II];clear ho II;go_wp2_with fail;go_ret;rw[hr.out];exact⟨rfl,hK.trans k1⟩
  ·obtain rfl:k=L:=(by omega);have hr:Pv (Kv G9 es=-1):=by
    have h:=hS.out
    rw[Py (by rw[HL.out];exact zl _)]at h
    exact FZ h
   go_wp2_with fail;go_ret;rw[hr.out];exact⟨rfl,hK⟩
theorem J7 (A:Option Pn) (c:Nat) (es:List AB) (w:Pm) (h:Bj w A es) (hl:es.length<=100000) :
  Po B_ 189 #[.slice A es.length c,.func (.func 187) #[] #[]] w λ e w'=>e=.returned (.bool (!es.all G9))/\Ac w w':=by
 have hC:=zh (O6 A c es w h hl)
 by_cases ho:es.all G9=true
 ·have hr:=FZ ho;rw[hr]at hC;rw[ho];clear hr ho h;go_enter M_,J_;go_wp2_with fail;refine hC.out.mono ?_;rintro e w1 ⟨rfl,k1⟩;go_wp2_with fail;go_ret;exact⟨rfl,k1⟩
 ·have II:es.all G9=false:=(by simpa using ho);obtain⟨m,hm⟩:∃ m:Nat,Kv G9 es=m:=⟨_,if_neg ho⟩;rw[hm]at hC;rw[II];clear hm ho II h;have jE:(0:Int)<=(m:Int):=(by omega);go_enter M_,J_;go_wp2_with fail;refine hC.out.mono ?_;rintro e w1 ⟨rfl,k1⟩;go_wp2_with fail;go_ret;exact⟨rfl,k1⟩
theorem CH (n:Int) (A:Option Pn) (c:Nat) (es:List AB) (w:Pm) (h:Bj w A es) (hl:es.length<=100000) :
  Po B_ 135 #[.agg #[i64 n,.slice A es.length c]] w λ e w'=>e=.returned (i64 (Aq n es))/\Ac w w':=by
 have b0:=zv w 24 #[i64 n,.slice A es.length c]
 have BY:Ac w (w.alloc (.cells #[i64 n,.slice A es.length c] 24)):=(zr _ _).alloc _
 have hE:=h.grew BY
 have hC1:=zh (J8 n A es.length c w.heap.size A c es _ b0 hE hl)
 have vC:=zh (λ W h=>J7 A c es W h hl)
 have HE:=zh hE
 clear hE h
 obtain⟨L,hL⟩:=zn (es.length)
 rw[hL]at hl b0 hC1 vC HE BY
 rw[hL]
 have HL:=zh hL
 clear hL
 obtain⟨g0,g1⟩:=CE b0
 rcases Pr n 1 with h1 | h1
 ·have hr:Pv (Aq n es=2):=if_pos (.inl h1);go_enter E_,C_;go_wp2_with fail;go_ret;rw[hr.out];exact⟨rfl,BY⟩
 rcases Pr 4096 n with h2 | h2
 ·have hr:Pv (Aq n es=2):=if_pos (.inr h2);go_enter E_,C_;go_wp2_with fail;go_ret;rw[hr.out];exact⟨rfl,BY⟩
 have IL:Pv (Aq n es=if 16384<es.length then 5 else if es.all (AU n)=true then (if es.all G9=true then 0 else 2) else 7):=if_neg (by omega)
 rcases Nat.lt_or_ge 16384 L with h3 | h3
 ·have hr:Pv (Aq n es=5):=IL.out.trans (if_pos (by rw[HL.out];exact h3));go_enter E_,C_;go_wp2_with fail;go_ret;rw[hr.out];exact⟨rfl,BY⟩
 have CR:Pv (Aq n es=if es.all (AU n)=true then (if es.all G9=true then 0 else 2) else 7):=IL.out.trans (if_neg (by rw[HL.out];omega))
 clear IL
 by_cases ho:es.all (AU n)=true
 ·have F9:Pv (Aq n es=if es.all G9=true then 0 else 2):=CR.out.trans (if_pos ho);rw[ho]at hC1;clear ho CR;by_cases ho:es.all G9=true
  ·have hr:Pv (Aq n es=0):=F9.out.trans (if_pos ho);rw[ho]at vC;clear ho F9;go_enter E_,C_;go_wp2_with fail;refine hC1.out.mono ?_;rintro e w1 ⟨rfl,k1⟩;have b1:=b0.grew k1;have g0':=b1.cell 0;have g1':=b1.cell 1;simp at g0' g1';go_wp2_with fail;refine(vC.out _ (HE.out.grew k1)).mono ?_;rintro e w2 ⟨rfl,k2⟩;go_wp2_with fail;go_ret;rw[hr.out];exact⟨rfl,(BY.trans k1).trans k2⟩
  ·have hr:Pv (Aq n es=2):=F9.out.trans (if_neg ho);have II:es.all G9=false:=(by simpa using ho);rw[II]at vC;clear ho II F9;go_enter E_,C_;go_wp2_with fail;refine hC1.out.mono ?_;rintro e w1 ⟨rfl,k1⟩;have b1:=b0.grew k1;have g0':=b1.cell 0;have g1':=b1.cell 1;simp at g0' g1';go_wp2_with fail;refine(vC.out _ (HE.out.grew k1)).mono ?_;rintro e w2 ⟨rfl,k2⟩;go_wp2_with fail;go_ret;rw[hr.out];exact⟨rfl,(BY.trans k1).trans k2⟩
 ·have hr:Pv (Aq n es=7):=CR.out.trans (if_neg ho);have II:es.all (AU n)=false:=(by simpa using ho);rw[II]at hC1;clear ho II CR;go_enter E_,C_;go_wp2_with fail;refine hC1.out.mono ?_;rintro e w1 ⟨rfl,k1⟩;go_wp2_with fail;go_ret;rw[hr.out];exact⟨rfl,BY.trans k1⟩
end Go.Proofs.YtepelooebggliaaGreatDoor
namespace Go.Proofs.YtepelooebggliaaGreatDoor
theorem right_zero {n:Int} {es:List AB} (h:Aq n es=0):1<=n/\n<=4096/\es.length<=16384/\∀ (k:Nat) (p q r:Int),es[k]? = some (p,q,r)->0<=p/\p<n/\0<=q/\q<n/\p≠q/\1<=r/\r<=4294967296:=by
 unfold Aq at h;by_cases h1:n<1\/4096<n
 ·rw[if_pos h1]at h;cases h
 rw[if_neg h1]at h;by_cases h2:16384<es.length
 ·rw[if_pos h2]at h;cases h
 rw[if_neg h2]at h;by_cases h3:es.all (AU n)=true
 ·rw[if_pos h3]at h;by_cases h4:es.all G9=true
  ·refine⟨by omega,by omega,by omega,λ k p q r hk=>?_⟩;have hm:=zm hk;have a:=Px.1 h3 _ hm;have b:=Px.1 h4 _ hm;simp[AU,G9]at a b;omega
  ·rw[if_neg h4]at h;cases h
 ·rw[if_neg h3]at h;cases h
def Mb (n:Int) (e:AB):Prop:=0<=e.1/\e.1<n/\0<=e.2.1/\e.2.1<n/\e.1≠e.2.1/\1<=e.2.2/\e.2.2<=4294967296
theorem pZ {n:Int} {es:List AB} (h1:1<=n) (h2:n<=4096) (h3:es.length<=16384) (h4:∀ e∈es,Mb n e):Aq n es=0:=by
 unfold Aq;rw[if_neg (by omega),if_neg (by omega),if_pos ?_,if_pos ?_]
 ·refine Px.2 λ e he=>?_;have:=h4 e he;unfold Mb at this;simp[G9];omega
 ·refine Px.2 λ e he=>?_;have:=h4 e he;unfold Mb at this;simp[AU];omega
theorem Ch {n:Int} {es:List AB} (h:Aq n es=0) {e:AB} (he:e∈es):Mb n e:=by
 obtain⟨k,hk,hke⟩:=List.getElem_of_mem he;exact(right_zero h).2.2.2 k e.1 e.2.1 e.2.2 (by rw[zq hk,hke])
structure Sc where
 from':Int
 to':Int
 w:Int
 edge:Int
 a:Int
 b:Int
deriving DecidableEq
def Bq (l:List Int):Prop:=(∀ x∈l,0<=x/\x<(l.length:Int))/\l.Nodup
def Ce (es:List AB) (s:Sc):Prop:=0<=s.edge/\s.a=-1/\s.b=-1/\es[s.edge.toNat]? = some (s.from',s.to',s.w)
def im (x:Int):Int:=PI.wrap x
def CS (rk:List Int) (ah:List Sc) (s:Sc):Prop :=
 s.edge=-1/\0<=s.a/\0<=s.b/\s.from'≠s.to'/\∃ x y,ah[s.a.toNat]? = some x/\ah[s.b.toNat]? = some y/\x.from'=s.from'/\x.to'=y.from'/\y.to'=s.to'/\im (x.w+y.w)=s.w /\
  rk.getD x.to'.toNat 0<min (rk.getD s.from'.toNat 0) (rk.getD s.to'.toNat 0)
def made (n:Int) (es:List AB) (rk:List Int) (ss:List Sc):Prop :=
 (rk.length:Int)=n/\Bq rk/\∀ i s,ss[i]? = some s->Ce es s\/CS rk (ss.take i) s
def inN (n:Int) (s:Sc):Prop:=0<=s.from'/\s.from'<n/\0<=s.to'/\s.to'<n
theorem JF {n:Int} {es:List AB} {s:Sc} (hr:Aq n es=0) (h:Ce es s):inN n s:=by
 have:=Ch hr (zm h.2.2.2);unfold Mb at this;exact⟨this.1,this.2.1,this.2.2.1,this.2.2.2.1⟩
theorem qn {n:Int} {rk:List Int} {ah:List Sc} {s:Sc} (ha:∀ x∈ah,inN n x) (h:CS rk ah s):inN n s:=by
 obtain⟨_,_,_,_,x,y,hx,hy,e1,_,e3,_⟩:=h;have a:=ha x (zm hx);have b:=ha y (zm hy);unfold inN at a b ⊢;omega
theorem ui {n:Int} {es:List AB} {rk:List Int} {ss:List Sc} (hr:Aq n es=0) (h:made n es rk ss):∀ k,∀ x∈ss.take k,inN n x:=by
 intro k;induction k with
 | zero=>intro x hx;simp at hx
 | succ k ih =>
  intro x hx;rw[Pz]at hx;rcases PA.1 hx with hx | hx
  ·exact ih x hx
  ·have hk:ss[k]? = some x:=(by simpa using hx);rcases h.2.2 k x hk with h' | h'
   ·exact JF hr h'
   ·exact qn ih h'
theorem pC {n:Int} {es:List AB} {rk:List Int} {ss:List Sc} (hr:Aq n es=0) (h:made n es rk ss):∀ x∈ss,inN n x:=by
 have:=ui hr h ss.length;rwa [List.take_length]at this
end Go.Proofs.YtepelooebggliaaGreatDoor
namespace Go.Proofs.YtepelooebggliaaGreatDoor
open Go.RowKit
theorem info_int:(B_.info? 3).map (λ i=>(i.zero,i.size,i.bytes))=some (some (.int .i64 0),1,8):=by kernel_rfl
theorem IN:(B_.info? 4).map (λ i=>(i.zero,i.size,i.bytes))=some (some (.bool false),1,1):=by kernel_rfl
def RowI (w:Pm) (A:Option Pn) (zs:List Int):Prop:=∀ (i:Nat) (x:Int),zs[i]? = some x->∃ b off,A=some ⟨b,off,none⟩/\b<w.heap.size/\w.cell? ⟨b,off+i,none⟩=some (i64 x)
theorem RowI.kept {F:Nat->Prop} {w w':Pm} {A:Option Pn} {l:List Int} (h:RowI w A l) (hK:Kept F w w') (hF:∀ a,A=some a->¬ F a.block):RowI w' A l:=λ i x hx=>by
 obtain⟨b,off,hA,hb,hc⟩:=h i x hx;exact⟨b,off,hA,PL hb hK.size,hK.cell hc (show ¬ F b from hF _ hA)⟩
theorem RowI.grew {w w':Pm} {A:Option Pn} {l:List Int} (h:RowI w A l) (hK:Ac w w'):RowI w' A l:=h.kept hK λ _ _ h=>h
def AO (w:Pm) (B:Nat) (v:Pp) (zs:List Int):Prop:=w.ownsRow B 3 1 v zs.length (zs.map i64)
theorem AO.row {w:Pm} {B:Nat} {v:Pp} {zs:List Int} (h:AO w B v zs):∃ A c,v=.slice A zs.length c/\RowI w A zs:=by
 rcases h.2 with ⟨hv,h0⟩ | ⟨g,cap,cur,hv,hb,hg,rest⟩
 ·exact⟨none,0,by rw[hv,h0],λ i z hz=>by rw[List.eq_nil_of_length_eq_zero h0]at hz;simp at hz⟩
 ·refine⟨_,cap,hv,λ i z hz=>⟨g,0,rfl,(Array.getElem?_eq_some_iff.1 hg).1,?_⟩⟩;subst hv;have hi:=(PB.1 hz).1;have:=World.ownsRow.cellAt h i (by omega);rw[Nat.zero_add];rw[this,List.getElem?_map,hz];rfl
theorem AO.grew {w w':Pm} {B:Nat} {v:Pp} {zs:List Int} (h:AO w B v zs) (k:Ac w w'):AO w' B v zs:=Ac.own k h
theorem AO.kept {F:Nat->Prop} {w w':Pm} {B:Nat} {v:Pp} {zs:List Int} (h:AO w B v zs) (k:Kept F w w') (hF:∀ j,v.ownBlock=some j->¬ F j):AO w' B v zs:=Kept.own k h hF
def Js (n:Nat) (rk:List Int):Array Pp:=((List.range n).map λ (i:Nat)=>Value.bool (decide ((i:Int)∈rk))).toArray
theorem KF (n:Nat) (rk:List Int) {i:Nat} (hi:i<n):(Js n rk)[i]? = some (.bool (decide ((i:Int)∈rk))):=by simp[Js,hi]
theorem kj (n:Nat):madeCells #[.bool false] n=Js n []:=by
 apply Array.ext
 ·simp[Js,size_madeCells]
 ·intro k h1 h2;have hk:k<n:=(by simpa [Js] using h2);simp[Js,madeCells,Value.cells,Nat.mod_one]
theorem pH (n:Nat) (rk:List Int) {x:Nat} (hx:x<n):(Js n rk).setIfInBounds x (.bool true)=Js n (rk++[(x:Int)]):=by
 apply Array.ext_getElem?;intro j;by_cases hj:j<n
 ·rw[KF n _ hj];by_cases hjx:x=j
  ·subst hjx;rw[Array.getElem?_setIfInBounds_self_of_lt (by simpa [Js] using hx)];simp
  ·rw[Array.getElem?_setIfInBounds_ne hjx,KF n _ hj];have:¬ ((j:Int)=(x:Int)):=(by omega);simp[this]
 ·rw[Array.getElem?_eq_none (by simp[Js];omega),Array.getElem?_eq_none (by simp[Js];omega)]
def CC (s:Sc):Array Pp:=#[i64 s.from',i64 s.to',.int .u64 s.w,i64 s.edge,i64 s.a,i64 s.b]
abbrev scV (s:Sc):Pp:=.agg #[i64 s.from',i64 s.to',.int .u64 s.w,i64 s.edge,i64 s.a,i64 s.b]
def EW (w:Pm) (A:Option Pn) (ss:List Sc):Prop:=∀ (i:Nat) (s:Sc),ss[i]? = some s->∃ b off,A=some ⟨b,off,none⟩/\b<w.heap.size /\
 w.cell? ⟨b,off+i*6,none⟩=some (i64 s.from')/\w.cell? ⟨b,off+i*6+1,none⟩=some (i64 s.to')/\w.cell? ⟨b,off+i*6+2,none⟩=some (.int .u64 s.w) /\
 w.cell? ⟨b,off+i*6+3,none⟩=some (i64 s.edge)/\w.cell? ⟨b,off+i*6+4,none⟩=some (i64 s.a)/\w.cell? ⟨b,off+i*6+5,none⟩=some (i64 s.b)
theorem EW.kept {F:Nat->Prop} {w w':Pm} {A:Option Pn} {l:List Sc} (h:EW w A l) (hK:Kept F w w') (hF:∀ a,A=some a->¬ F a.block):EW w' A l:=λ i x hx=>by
 obtain⟨b,off,hA,hb,c0,c1,c2,c3,c4,c5⟩:=h i x hx;have hf:¬ F b:=hF _ hA;exact⟨b,off,hA,PL hb hK.size,hK.cell c0 hf,hK.cell c1 hf,hK.cell c2 hf,hK.cell c3 hf,hK.cell c4 hf,hK.cell c5 hf⟩
theorem EW.grew {w w':Pm} {A:Option Pn} {l:List Sc} (h:EW w A l) (hK:Ac w w'):EW w' A l:=h.kept hK λ _ _ h=>h
theorem ND {rk:List Int} {x:Int} (h0:0<=x) (h1:x<(rk.length:Int)):rk[x.toNat]? = some (rk.getD x.toNat 0):=by
 rw[Pw,zq (by omega)];rfl
end Go.Proofs.YtepelooebggliaaGreatDoor
namespace Go.Proofs.YtepelooebggliaaGreatDoor
open Go.RowKit Go.Maps Go.WideMaps
theorem lawI:Keyed B_ 3:=int_keyed N_
abbrev rW (x:Int):Pp:=i64 x
abbrev zW (x:Int):Pp:=u64 x
theorem uj (a b:Int) (h:rW a=rW b):a=b:=by simpa [rW] using h
theorem wf_i (x:Int) (h0:0<=x) (h1:x<=1000000000000):(Lit.int .i64 x).wf=true:=by
 show (decide (PJ .i64<=x)&&decide (x<=PK .i64))=true;have a:PJ .i64=-9223372036854775808:=(by decide);have b:PK .i64=9223372036854775807:=(by decide);rw[a,b];simp;omega
theorem wH (x:Int) (h0:0<=x) (h1:x<=1000000000000):keyOf B_ 3 (i64 x)=some (.int .i64 x):=keyOf_int_mk N_ (wf_i x h0 h1)
theorem zA2 (w:Pm):(zeroValue 29).run B_ w=.ok (u64 0) w:=by kernel_rfl
theorem wW (w:Pm):(zeroValue 3).run B_ w=.ok (i64 0) w:=by kernel_rfl
abbrev Cl (w:Pm) (M n:Nat) (m:Int->Option Int):Prop:=BG B_ 3 rW zW w M n m
theorem Cl.at {w:Pm} {M n:Nat} {m:Int->Option Int} (h:Cl w M n m) (x:Int) (h0:0<=x) (h1:x<=1000000000000) :
  (PM 239 (.map (some M)) (i64 x) true).run B_ w=.ok (.tuple #[u64 ((m x).getD 0),.bool (m x).isSome]) w:=by
 have:=h.look lawI Pj (wH x h0 h1) (zA2 w) true
 rw[this]
 cases m x<;>rfl
theorem Cl.store {w:Pm} {M n:Nat} {m:Int->Option Int} (h:Cl w M n m) (x y:Int) (h0:0<=x) (h1:x<=1000000000000) :
  ∃ w',(PN 239 (.map (some M)) (i64 x) (u64 y)).run B_ w=.ok () w'/\Cl w' M (n+1) (EG m x y)/\Kept (·=M) w w'/\w'.heap.size=w.heap.size :=
 h.put uj lawI Pj (wH x h0 h1)
theorem mU:ArrKey B_ 420 3 2:=⟨Tryz.underlying420,by kernel_rfl,by kernel_rfl,by kernel_rfl⟩
theorem zU:Keyed B_ 420:=Keyed.of_law mU.law
abbrev mkP (a:Int×Int):Pp:=.agg #[i64 a.1,i64 a.2]
abbrev mvI (x:Nat):Pp:=i64 (x:Int)
theorem uk (a b:Int×Int) (h:mkP a=mkP b):a=b:=by
 obtain⟨a1,a2⟩:=a;obtain⟨b1,b2⟩:=b;simpa [mkP] using h
theorem pq (a:Int×Int) (h0:0<=a.1/\a.1<=1000000000000) (h1:0<=a.2/\a.2<=1000000000000):keyOf B_ 420 (mkP a)=some (.string (keyBytes [.int .i64 a.1,.int .i64 a.2])) :=
 keyOf_pair mU N_ ⟨_,rfl⟩ (wf_i _ h0.1 h0.2) (wf_i _ h1.1 h1.2)
abbrev F6 (w:Pm) (M n:Nat) (m:Int×Int->Option Nat):Prop:=BG B_ 420 mkP mvI w M n m
theorem F6.at {w:Pm} {M n:Nat} {m:Int×Int->Option Nat} (h:F6 w M n m) (x y:Int) (h0:0<=x/\x<=1000000000000) (h1:0<=y/\y<=1000000000000) :
  (PM 349 (.map (some M)) (.agg #[i64 x,i64 y]) true).run B_ w=.ok (.tuple #[i64 (((m (x,y)).getD 0:Nat):Int),.bool (m (x,y)).isSome]) w:=by
 have:=h.look (a:=(x,y)) zU K_ (pq (x,y) h0 h1) (wW w) true
 rw[this]
 cases m (x,y)<;>rfl
theorem F6.at1 {w:Pm} {M n:Nat} {m:Int×Int->Option Nat} (h:F6 w M n m) (x y:Int) (h0:0<=x/\x<=1000000000000) (h1:0<=y/\y<=1000000000000) :
  (PM 349 (.map (some M)) (.agg #[i64 x,i64 y]) false).run B_ w=.ok (i64 (((m (x,y)).getD 0:Nat):Int)) w:=by
 have:=h.look (a:=(x,y)) zU K_ (pq (x,y) h0 h1) (wW w) false
 rw[this]
 cases m (x,y)<;>rfl
theorem F6.store {w:Pm} {M n:Nat} {m:Int×Int->Option Nat} (h:F6 w M n m) (x y:Int) (k:Nat) (h0:0<=x/\x<=1000000000000) (h1:0<=y/\y<=1000000000000) :
  ∃ w',(PN 349 (.map (some M)) (.agg #[i64 x,i64 y]) (i64 (k:Int))).run B_ w=.ok () w'/\F6 w' M (n+1) (EG m (x,y) k)/\Kept (·=M) w w'/\w'.heap.size=w.heap.size :=
 h.put (a:=(x,y)) uk zU K_ (pq (x,y) h0 h1)
end Go.Proofs.YtepelooebggliaaGreatDoor
namespace Go.Proofs.YtepelooebggliaaGreatDoor
open Go.RowKit
def FA (p:Prop) (e:Ending):Prop:=∃ b,e=.returned (.bool b)/\(b=true↔p)
theorem FA.yes {p:Prop} (h:p):FA p (.returned (.bool true)):=⟨true,rfl,λ _=>h,λ _=>rfl⟩
theorem FA.no {p:Prop} (h:¬ p):FA p (.returned (.bool false)):=⟨false,rfl,λ h=>(by cases h),λ hp=>absurd hp h⟩
structure RrS (n:Nat) (rk:List Int) (M:Nat) (w:Pm) (k:Nat) (wr:Pm):Prop where
 met:Am wr M 4 (Js n (rk.take k))
 rng:∀ x∈rk.take k,0<=x/\x<(n:Int)
 nod:(rk.take k).Nodup
 kept:Ac w wr
theorem kr {rk:List Int} {k:Nat} {x:Int} (hx:rk[k]? = some x) (hm:x∈rk.take k):¬ rk.Nodup:=λ h=>by
 rw[<- PE k rk]at h;have hd:x∈rk.drop k:=by
  have:(rk.drop k)[0]? = some x:=by rw[List.getElem?_drop];exact hx
  exact zm this
 exact(PF.1 h).2.2 x hm x hd rfl
theorem RrS.next {n:Nat} {rk:List Int} {M:Nat} {w:Pm} {k:Nat} {wr:Pm} (h:RrS n rk M w k wr) {x:Nat} (hx:rk[k]? = some (x:Int)) (hxn:x<n) (hm:¬ (x:Int)∈rk.take k) (hM:w.heap.size<=M) :
  RrS n rk M w (k+1) (wr.setCell ⟨M,x,none⟩ (.bool true)):=by
 have e:rk.take (k+1)=rk.take k++[(x:Int)]:=by rw[Pz,hx];rfl
 refine⟨?_,?_,?_,h.kept.setCell (p:=⟨M,x,none⟩) (.inr hM) _⟩
 ·have q:=h.met.set x (.bool true);rw[pH n _ hxn]at q;rw[e];exact q
 ·intro y hy;rw[e]at hy;rcases PA.1 hy with hy | hy
  ·exact h.rng y hy
  ·simp at hy;subst hy;omega
 ·rw[e];refine PF.2 ⟨h.nod,by simp,λ a ha b hb e=>?_⟩;simp at hb;subst hb;exact hm (e▸ha)
theorem Ck (rk:List Int) (A:Option Pn) (c:Nat) (w:Pm) (h:RowI w A rk) (hl:rk.length<=100000) :
  Po B_ 124 #[.slice A rk.length c] w λ e w'=>FA (Bq rk) e/\Ac w w':=by
 obtain⟨j0,ji,jz0,jz1,jz2⟩:=info_parts IN
 obtain⟨n,hn⟩:=zn (rk.length)
 have HN:=zh hn
 have HR:=zh h
 rw[hn]at hl ⊢
 have jmk:=λ W=>run_make (P:=B_) W 259 4 j0 _ Tryz.underlying259 ji jz0 .i64 .i64 (n:Int) (n:Int) (by omega) (Int.le_refl _) (by rw[jz2];omega) (by omega)
 simp only[Ps,jz1,Nat.mul_one]at jmk
 clear ji jz0 jz1 jz2
 obtain⟨M,hM⟩:=zn (w.heap.size)
 have HM:=zh hM
 have vI:Pv (RrS n rk M w 0 (w.alloc (.cells (madeCells #[.bool false] n) 4))) :=
  ⟨by rw[kj,<-hM];exact zv _ _ _,λ x hx=>by simp at hx,by simp,(zr _ _).alloc _⟩
 clear h hn
 go_enter Tryz.func124,Tryz.ntmps124
 go_wp2_with fail
 go_loopw [11] (λ i wr=>∃ (k:Nat),k<=n/\i=.int .i64 k/\Pv (RrS n rk M w k wr)) (λ i _=>n-(intOf i).toNat)
 case atStart=>exact⟨0,by omega,rfl,vI.out⟩
 case round =>
  clear vI jmk;obtain⟨k,hk,rfl,hS⟩:=hrel;by_cases AH:k<n
  ·as_aux_lemma =>
   have l1:(k:Int)<(n:Int):=(by omega);have k0:(0:Int)<=(k:Int):=(by omega);obtain⟨x,hx⟩:=zx (l:=rk) (i:=k) (by rw[HN.out];exact AH);obtain⟨b,off,Nb,hb,e0⟩:=HR.out k x hx;subst Nb;replace e0:=ze hS.out.kept e0;have HX:=zh hx;clear hx;have hK:=zh hS.out.kept;by_cases h0:x<0
   ·have hf:Pv (¬ Bq rk):=λ ho=>by have:=(ho.1 x (zm HX.out)).1;omega
    clear hS;go_wp2_with fail;go_ret;exact⟨.no hf.out,hK.out⟩
   by_cases h1:(n:Int)<=x
   ·have hf:Pv (¬ Bq rk):=λ ho=>by have:=(ho.1 x (zm HX.out)).2;rw[HN.out]at this;omega
    clear hS;go_wp2_with fail;go_ret;exact⟨.no hf.out,hK.out⟩
   obtain⟨x,rfl⟩:=Pq (show 0<=x by omega);have h2:(x:Int)<(n:Int):=(by omega);have h3:(0:Int)<=(x:Int):=(by omega);have m0:=(hS.out.met.cell x).trans (KF n (rk.take k) (by omega));have mf:=hS.out.met.frozen x;by_cases hm:(x:Int)∈rk.take k
   ·rw[zt hm]at m0;have hf:Pv (¬ Bq rk):=λ ho=>kr HX.out hm ho.2;clear hS hm;go_wp2_with fail;go_ret;exact⟨.no hf.out,hK.out⟩
   ·rw[zf hm]at m0;have Ci:=zh (hS.out.next HX.out (by omega) hm (by have:=HM.out;omega));clear hS hm;go_wp2_with fail;go_roundw
    case rel=>exact⟨k+1,by omega,by go_num,Ci⟩
    case measure=>simp[intOf];omega
  ·as_aux_lemma =>
   obtain rfl:k=n:=(by omega);have hf:Pv (Bq rk/\Ac w wr):=by
    have hS:=hS.out;have e:rk.take k=rk:=Py (by rw[HN.out];exact zl _);have a:=hS.rng;have b:=hS.nod;rw[e]at a b;exact⟨⟨by rw[HN.out];exact a,b⟩,hS.kept⟩
   clear hS;go_wp2_with fail;go_ret;exact⟨.yes hf.out.1,hf.out.2⟩
theorem dN (n:Int) (A:Option Pn) (L c:Nat) (v:Int) (w:Pm) (hL:L<=100000):Po B_ 252 #[.agg #[i64 n,.slice A L c],i64 v] w λ e w'=>e=.returned (.bool (decide (0<=v/\v<(L:Int))))/\Ac w w':=by
 have hk:Ac w (w.alloc (.cells #[i64 n,.slice A L c] 24)):=(zr _ _).alloc _;rcases Pr v 0 with h1 | h1
 ·have hr:decide (0<=v/\v<(L:Int))=false:=zf (by omega);rw[hr];clear hr;have h2:¬ 0<=v:=(by omega);go_enter F_,D_;go_wp2_with fail;go_ret;exact⟨rfl,hk⟩
 ·rcases Pr v L with h2 | h2
  ·have hr:decide (0<=v/\v<(L:Int))=true:=zt (by omega);rw[hr];clear hr;go_enter F_,D_;go_wp2_with fail;go_ret;exact⟨rfl,hk⟩
  ·have hr:decide (0<=v/\v<(L:Int))=false:=zf (by omega);rw[hr];clear hr;have h3:¬ v<(L:Int):=(by omega);go_enter F_,D_;go_wp2_with fail;go_ret;exact⟨by simp,hk⟩
theorem MM (G:Nat) (A:Option Pn) (L c:Nat) (v:Int) (w:Pm) (hL:L<=100000) (hG:Am w G 85 #[.slice A L c]):Po B_ 390 #[i64 v,pt G] w λ e w'=>e=.returned (.bool (decide (0<=v/\v<(L:Int))))/\w=w':=by
 have c0:=hG.cell 0;simp at c0;clear hG;rcases Pr v 0 with h1 | h1
 ·have hr:decide (0<=v/\v<(L:Int))=false:=zf (by omega);rw[hr];clear hr;have h2:¬ 0<=v:=(by omega);go_enter Pg,Pc;go_wp2_with fail;go_ret;exact⟨rfl,rfl⟩
 ·rcases Pr v L with h2 | h2
  ·have hr:decide (0<=v/\v<(L:Int))=true:=zt (by omega);rw[hr];clear hr;go_enter Pg,Pc;go_wp2_with fail;go_ret;exact⟨rfl,rfl⟩
  ·have hr:decide (0<=v/\v<(L:Int))=false:=zf (by omega);rw[hr];clear hr;have h3:¬ v<(L:Int):=(by omega);go_enter Pg,Pc;go_wp2_with fail;go_ret;exact⟨by simp,rfl⟩
theorem jx (n:Int) (A:Option Pn) (c:Nat) (es:List AB) (s:Sc) (w:Pm) (h:Bj w A es) (hl:es.length<=100000) :
  Po B_ 320 #[.agg #[i64 n,.slice A es.length c],scV s] w λ e w'=>FA (Ce es s) e/\Ac w w':=by
 obtain⟨sf,st,sw,se,sa,sb⟩:=s
 obtain⟨L,hL⟩:=zn (es.length)
 have HL:=zh hL
 rw[hL]at hl ⊢
 clear hL
 have k0:Ac w ((w.alloc (.cells #[i64 n,.slice A L c] 24)).alloc (.cells #[i64 sf,i64 st,.int .u64 sw,i64 se,i64 sa,i64 sb] 150)):=((zr _ _).alloc _).alloc _
 have bG:=(zv w 24 #[i64 n,.slice A L c]).alloc (.cells #[i64 sf,i64 st,.int .u64 sw,i64 se,i64 sa,i64 sb] 150)
 have bS:=zv (w.alloc (.cells #[i64 n,.slice A L c] 24)) 150 #[i64 sf,i64 st,.int .u64 sw,i64 se,i64 sa,i64 sb]
 rw[Pt]at bS
 have HC:=zh (dN n A L c se ((w.alloc (.cells #[i64 n,.slice A L c] 24)).alloc (.cells #[i64 sf,i64 st,.int .u64 sw,i64 se,i64 sa,i64 sb] 150)) hl)
 have HE:=zh h
 have HK:=zh k0
 have g0:=bG.cell 0
 have g1:=bG.cell 1
 have s3:=bS.cell 3
 simp at g0 g1 s3
 have HbG:=zh bG
 have vf:=zh bS
 clear h k0 bG bS
 show Po B_ 320 #[.agg #[i64 n,.slice A L c],.agg #[i64 sf,i64 st,.int .u64 sw,i64 se,i64 sa,i64 sb]] w λ e w'=>FA (Ce es ⟨sf,st,sw,se,sa,sb⟩) e/\Ac w w'
 go_enter Tryz.func320,Tryz.ntmps320
 go_wp2_with fail
 refine HC.out.mono ?_
 rintro e w1 ⟨rfl,k1⟩
 have rB:=zh (HK.out.trans k1)
 have bG:=HbG.out.grew k1
 have bS:=vf.out.grew k1
 have g0:=bG.cell 0
 have g1:=bG.cell 1
 have s0:=bS.cell 0
 have s1:=bS.cell 1
 have s2:=bS.cell 2
 have s3:=bS.cell 3
 have s4:=bS.cell 4
 have s5:=bS.cell 5
 simp at g0 g1 s0 s1 s2 s3 s4 s5
 clear bG bS HbG vf HC k1
 by_cases BF:0<=se/\se<(L:Int)
 rotate_left
 ·as_aux_lemma =>
  rw[zf BF];have hf:Pv (¬ Ce es ⟨sf,st,sw,se,sa,sb⟩):=λ ho=>BF ⟨ho.1,by have:=get_lt ho.2.2.2;have h0:=ho.1;rw[HL.out]at this;simp only at this h0;omega⟩;clear BF;go_wp2_with fail;go_ret;exact⟨.no hf.out,rB.out⟩
 rw[zt BF]
 obtain⟨i,rfl⟩:=Pq BF.1
 have i1:(i:Int)<(L:Int):=BF.2
 have i0:(0:Int)<=(i:Int):=by omega
 clear BF
 by_cases ha:sa=-1
 rotate_left
 ·as_aux_lemma =>
  have hf:Pv (¬ Ce es ⟨sf,st,sw,i,sa,sb⟩):=λ ho=>ha ho.2.1;have hq:(sa != -1)=true:=(by simpa using ha);clear ha;go_wp2_with fail;go_ret;exact⟨.no hf.out,rB.out⟩
 by_cases hb:sb=-1
 rotate_left
 ·as_aux_lemma =>
  have hf:Pv (¬ Ce es ⟨sf,st,sw,i,sa,sb⟩):=λ ho=>hb ho.2.2.1;have hq:(sb != -1)=true:=(by simpa using hb);subst ha;have fU:((-1:Int) != -1)=false:=rfl;clear hb;go_wp2_with fail;go_ret;exact⟨.no hf.out,rB.out⟩
 subst ha
 subst hb
 have fU:((-1:Int) != -1)=false:=rfl
 obtain⟨⟨p,q,r⟩,hx⟩:∃ x,es[i]? = some x:=⟨_,zq (by rw[HL.out];omega)⟩
 obtain⟨b,off,Nb,hb,e0,e1,e2⟩:=HE.out i _ hx
 have HX:=zh hx
 subst Nb
 replace e0:=ze rB.out e0
 replace e1:=ze rB.out e1
 replace e2:=ze rB.out e2
 dsimp only at e0 e1 e2
 clear hx
 have GJ:Pv (Ce es ⟨sf,st,sw,i,-1,-1⟩↔(p,q,r)=(sf,st,sw)):=by
  show _↔_;unfold Ce;simp only[Ps,HX.out];constructor
  ·intro h;exact Option.some.inj h.2.2.2
  ·intro h;exact⟨i0,trivial,trivial,by rw[h]⟩
 by_cases he:(p,q,r)=(sf,st,sw)
 ·as_aux_lemma =>
  have hf:Pv (Ce es ⟨sf,st,sw,i,-1,-1⟩):=GJ.out.2 he;simp only[Prod.mk.injEq]at he;obtain⟨rfl,rfl,rfl⟩:=he;clear GJ;go_wp2_with fail;go_quiet (fail);go_wp2;go_ret;exact⟨.yes hf.out,rB.out.drewN _⟩
 ·have hf:Pv (¬ Ce es ⟨sf,st,sw,i,-1,-1⟩):=λ h=>he (GJ.out.1 h);clear GJ;by_cases hp:p=sf
  ·subst hp;by_cases hq:q=st
   ·as_aux_lemma =>
    subst hq;have h3:(r==sw)=false:=by
     simp only[beq_eq_false_iff_ne,ne_eq];exact λ h=>he (by rw[h])
    clear he;go_wp2_with fail;go_quiet (fail);go_wp2;go_ret;exact⟨.no hf.out,rB.out.drewN _⟩
   ·as_aux_lemma =>
    have h3:(q==st)=false:=(by simpa using hq);clear he;go_wp2_with fail;go_quiet (fail);go_wp2;go_ret;exact⟨.no hf.out,rB.out.drewN _⟩
  ·as_aux_lemma =>
   have h3:(p==sf)=false:=(by simpa using hp);clear he;go_wp2_with fail;go_quiet (fail);go_wp2;go_ret;exact⟨.no hf.out,rB.out.drewN _⟩
theorem uM (rk:List Int) (ss:List Sc) (Ar As:Option Pn) (cr cs:Nat) (s:Sc) (w:Pm) (hr:RowI w Ar rk) (hs:EW w As ss) (GM:rk.length<=100000) (DY:ss.length<=100000) (BF:∀ x∈ss,inN rk.length x) :
  Po B_ 321 #[.slice Ar rk.length cr,.slice As ss.length cs,scV s] w λ e w'=>FA (CS rk ss s) e/\Ac w w':=by
 obtain⟨sf,st,sw,se,sa,sb⟩:=s
 obtain⟨n,hn⟩:=zn (rk.length)
 obtain⟨m,hm⟩:=zn (ss.length)
 have HN:=zh hn
 have HM:=zh hm
 have HIN:=zh BF
 have xB:=zh hr
 have HSr:=zh hs
 rw[hn]at GM ⊢
 rw[hm]at DY ⊢
 have k0:Ac w ((w.alloc (.cells #[.slice As m cs] 85)).alloc (.cells #[i64 sf,i64 st,.int .u64 sw,i64 se,i64 sa,i64 sb] 150)):=((zr _ _).alloc _).alloc _
 have bA:=(zv w 85 #[.slice As m cs]).alloc (.cells #[i64 sf,i64 st,.int .u64 sw,i64 se,i64 sa,i64 sb] 150)
 have bS:=zv (w.alloc (.cells #[.slice As m cs] 85)) 150 #[i64 sf,i64 st,.int .u64 sw,i64 se,i64 sa,i64 sb]
 rw[Pt]at bS
 obtain⟨r0,hr0⟩:=zn (w.heap.size)
 rw[hr0]at bA bS
 obtain⟨W1,N8⟩:=zn ((w.alloc (.cells #[.slice As m cs] 85)).alloc (.cells #[i64 sf,i64 st,.int .u64 sw,i64 se,i64 sa,i64 sb] 150))
 rw[N8]at k0 bA bS
 have xh:=zh (MM r0 As m cs sa W1 DY bA)
 have HCb:=zh (MM r0 As m cs sb W1 DY bA)
 have HK:=zh k0
 have vf:=zh bS
 have a0:=bA.cell 0
 have s0:=bS.cell 0
 have s1:=bS.cell 1
 have s2:=bS.cell 2
 have s3:=bS.cell 3
 have s4:=bS.cell 4
 have s5:=bS.cell 5
 simp at a0 s0 s1 s2 s3 s4 s5
 have HbA:=zh bA
 have hmf:∀ (fn:Fn) (first cap:Array Pp) (w:Pm),(Instr.makeFunc fn first cap).run B_ w=.ok (.func fn first cap) w:=λ _ _ _ _=>rfl
 clear hr hs BF hn hm k0 bA bS
 show Po B_ 321 #[.slice Ar n cr,.slice As m cs,.agg #[i64 sf,i64 st,.int .u64 sw,i64 se,i64 sa,i64 sb]] w λ e w'=>FA (CS rk ss ⟨sf,st,sw,se,sa,sb⟩) e/\Ac w w'
 by_cases he:se=-1
 rotate_left
 ·as_aux_lemma =>
  have hf:Pv (¬ CS rk ss ⟨sf,st,sw,se,sa,sb⟩):=λ ho=>he ho.1;have hq:(se != -1)=true:=(by simpa using he);clear he;go_enter H_,G_;go_wp2_with fail;go_ret;exact⟨.no hf.out,HK.out⟩
 subst he
 have hq:((-1:Int) != -1)=false:=rfl
 by_cases ha:0<=sa/\sa<(m:Int)
 rotate_left
 ·as_aux_lemma =>
  have hf:Pv (¬ CS rk ss ⟨sf,st,sw,-1,sa,sb⟩):=λ ho=>ha ⟨ho.2.1,by
   obtain⟨h0,_,_,x,y,hx,_⟩:=ho.2
   have:=get_lt hx
   rw[HM.out]at this
   simp only at this h0
   omega⟩
  rw[zf ha]at xh;clear ha;go_enter H_,G_;go_wp2_with fail;refine xh.out.mono ?_;rintro e w' ⟨rfl,rfl⟩;go_wp2_with fail;go_ret;exact⟨.no hf.out,HK.out⟩
 rw[zt ha]at xh
 by_cases hb:0<=sb/\sb<(m:Int)
 rotate_left
 ·as_aux_lemma =>
  have hf:Pv (¬ CS rk ss ⟨sf,st,sw,-1,sa,sb⟩):=λ ho=>hb ⟨ho.2.2.1,by
   obtain⟨_,h0,_,x,y,_,hx,_⟩:=ho.2
   have:=get_lt hx
   rw[HM.out]at this
   simp only at this h0
   omega⟩
  rw[zf hb]at HCb;clear hb;go_enter H_,G_;go_wp2_with fail;refine xh.out.mono ?_;rintro e w' ⟨rfl,rfl⟩;go_wp2_with fail;refine HCb.out.mono ?_;rintro e w' ⟨rfl,rfl⟩;go_wp2_with fail;go_ret;exact⟨.no hf.out,HK.out⟩
 rw[zt hb]at HCb
 by_cases hft:sf=st
 ·as_aux_lemma =>
  have hf:Pv (¬ CS rk ss ⟨sf,st,sw,-1,sa,sb⟩):=λ ho=>ho.2.2.2.1 hft;have hft2:(sf==st)=true:=(by simpa using hft);clear hft;go_enter H_,G_;go_wp2_with fail;refine xh.out.mono ?_;rintro e w' ⟨rfl,rfl⟩;go_wp2_with fail;refine HCb.out.mono ?_;rintro e w' ⟨rfl,rfl⟩;go_wp2_with fail;go_ret;exact⟨.no hf.out,HK.out⟩
 have hft2:(sf==st)=false:=by simpa using hft
 as_aux_lemma =>
  obtain⟨i,rfl⟩:=Pq ha.1;obtain⟨j,rfl⟩:=Pq hb.1;have i0:(0:Int)<=(i:Int):=(by omega);have j0:(0:Int)<=(j:Int):=(by omega);have i1:(i:Int)<(m:Int):=ha.2;have j1:(j:Int)<(m:Int):=hb.2;obtain⟨x,hx⟩:=zx (l:=ss) (i:=i) (by rw[HM.out];omega);obtain⟨y,hy⟩:=zx (l:=ss) (i:=j) (by rw[HM.out];omega);have GJ:Pv (CS rk ss ⟨sf,st,sw,-1,i,j⟩↔(x.from'=sf/\x.to'=y.from'/\y.to'=st/\im (x.w+y.w)=sw/\rk.getD x.to'.toNat 0<min (rk.getD sf.toNat 0) (rk.getD st.toNat 0))):=by
   show _↔_;constructor
   ·rintro ⟨_,_,_,_,x',y',Fk,hy',r⟩;simp only[Ps]at Fk hy';rw[hx]at Fk;rw[hy]at hy';cases Fk;cases hy';exact r
   ·intro r;exact⟨rfl,i0,j0,hft,x,y,by simpa using hx,by simpa using hy,r⟩
  obtain⟨bA',oA',hAs,Lx,x0,x1,x2,x3,x4,x5⟩:=HSr.out i x hx;obtain⟨bB',oB',hBs,hb'',y0,y1,y2,y3,y4,y5⟩:=HSr.out j y hy;obtain⟨rfl,rfl⟩:bB'=bA'/\oB'=oA':=by rw[hAs]at hBs;simp at hBs;exact⟨hBs.1.symm,hBs.2.symm⟩
  have Hb:Pv (bB'<W1.heap.size):=PL Lx HK.out.size;have inx:=HIN.out x (zm hx);have iny:=HIN.out y (zm hy);rw[HN.out]at inx iny;unfold inN at inx iny;subst hAs;replace x0:=ze HK.out x0;replace x1:=ze HK.out x1;replace x2:=ze HK.out x2;replace x3:=ze HK.out x3;replace x4:=ze HK.out x4;replace x5:=ze HK.out x5;replace y0:=ze HK.out y0;replace y1:=ze HK.out y1;replace y2:=ze HK.out y2;replace y3:=ze HK.out y3;replace y4:=ze HK.out y4;replace y5:=ze HK.out y5;clear ha hb hft hx hy hBs Lx hb'' HSr;have BS:∀ (a:Pn) (v:Pp),W1.cell? a=some v->a.block<W1.heap.size->(∀ o,(W1.alloc o).cell? a=some v)/\∀ o q,((W1.alloc o).alloc q).cell? a=some v:=λ a v ha hb=>by
   have h1:∀ o,(W1.alloc o).cell? a=some v:=λ o=>((zr (λ _=>False) W1).alloc o).cell ha (λ h=>h);exact⟨h1,λ o q=>((zr (λ _=>False) (W1.alloc o)).alloc q).cell (h1 o) (λ h=>h)⟩
  obtain⟨x0A,x0B⟩:=BS _ _ x0 Hb.out;obtain⟨x1A,x1B⟩:=BS _ _ x1 Hb.out;obtain⟨x2A,x2B⟩:=BS _ _ x2 Hb.out;obtain⟨x3A,x3B⟩:=BS _ _ x3 Hb.out;obtain⟨x4A,x4B⟩:=BS _ _ x4 Hb.out;obtain⟨x5A,x5B⟩:=BS _ _ x5 Hb.out;obtain⟨y0A,y0B⟩:=BS _ _ y0 Hb.out;obtain⟨y1A,y1B⟩:=BS _ _ y1 Hb.out;obtain⟨y2A,y2B⟩:=BS _ _ y2 Hb.out;obtain⟨y3A,y3B⟩:=BS _ _ y3 Hb.out;obtain⟨y4A,y4B⟩:=BS _ _ y4 Hb.out;obtain⟨y5A,y5B⟩:=BS _ _ y5 Hb.out;obtain⟨s4A,s4B⟩:=BS _ _ s4 vf.out.lt;obtain⟨s5A,s5B⟩:=BS _ _ s5 vf.out.lt;obtain⟨a0A,a0B⟩:=BS _ _ a0 HbA.out.lt;clear BS;go_enter H_,G_;go_wp2_with fail;refine xh.out.mono ?_;rintro e w' ⟨rfl,rfl⟩;go_wp2_with fail;refine HCb.out.mono ?_;rintro e w' ⟨rfl,rfl⟩;clear xh HCb;go_upto_region 4 with fail;go_cut [8,9] (λ v8 v9 wx=>∃ gx gy:Nat,v8=pt gx/\v9=pt gy/\Pv (Am wx gx 150 #[i64 x.from',i64 x.to',.int .u64 x.w,i64 x.edge,i64 x.a,i64 x.b]/\Am wx gy 150 #[i64 y.from',i64 y.to',.int .u64 y.w,i64 y.edge,i64 y.a,i64 y.b] /\
   Am wx (r0+1) 150 #[i64 sf,i64 st,.int .u64 sw,i64 (-1),i64 i,i64 j]/\Ac W1 wx))
  case first =>
   go_region;all_goals go_wp2_with fail
   all_goals go_meet
   ·have n1:=zv W1 150 #[i64 x.from',i64 x.to',.int .u64 x.w,i64 x.edge,i64 x.a,i64 x.b];have n2:=zv (W1.alloc (.cells #[i64 x.from',i64 x.to',.int .u64 x.w,i64 x.edge,i64 x.a,i64 x.b] 150)) 150 #[i64 y.from',i64 y.to',.int .u64 y.w,i64 y.edge,i64 y.a,i64 y.b];rw[Pt]at n2;exact⟨_,_,rfl,rfl,n1.alloc _,n2,(vf.out.alloc _).alloc _,(((zr _ W1).alloc _).alloc _).drew⟩
   ·have n1:=zv W1 150 #[i64 y.from',i64 y.to',.int .u64 y.w,i64 y.edge,i64 y.a,i64 y.b];have n2:=zv (W1.alloc (.cells #[i64 y.from',i64 y.to',.int .u64 y.w,i64 y.edge,i64 y.a,i64 y.b] 150)) 150 #[i64 x.from',i64 x.to',.int .u64 x.w,i64 x.edge,i64 x.a,i64 x.b];rw[Pt]at n2;exact⟨_,_,rfl,rfl,n2,n1.alloc _,(vf.out.alloc _).alloc _,(((zr _ W1).alloc _).alloc _).drew⟩
  case rest =>
   obtain⟨gx,gy,rfl,rfl,hS⟩:=hcut;have HBx:=zh hS.out.1;have HBy:=zh hS.out.2.1;have HBs:=zh hS.out.2.2.1;have xp:=zh (HK.out.trans hS.out.2.2.2);clear hS x0 x0A x0B x1 x1A x1B x2 x2A x2B x3 x3A x3B x4 x4A x4B x5 x5A x5B y0 y0A y0B y1 y1A y1B y2 y2A y2B y3 y3A y3B y4 y4A y4B y5 y5A y5B s4A s4B s5A s5B a0A a0B s0 s1 s2 s3 s4 s5 a0 vf HbA HK;have x0:=HBx.out.cell 0;have x1:=HBx.out.cell 1;have x2:=HBx.out.cell 2;have y0:=HBy.out.cell 0;have y1:=HBy.out.cell 1;have y2:=HBy.out.cell 2;have s0:=HBs.out.cell 0;have s1:=HBs.out.cell 1;have s2:=HBs.out.cell 2;simp at x0 x1 x2 y0 y1 y2 s0 s1 s2;clear HBx HBy HBs;obtain⟨xf,xt,xw,xe,xa,xb⟩:=x;obtain⟨yf,yt,yw,ye,ya,yb⟩:=y;simp only at *;by_cases d1:xf=sf;rotate_left
   ·as_aux_lemma =>
    have hf:Pv (¬ CS rk ss ⟨sf,st,sw,-1,i,j⟩):=λ h=>d1 (GJ.out.1 h).1;have hd:(xf != sf)=true:=(by simpa using d1);clear d1 GJ;go_wp2_with fail;go_ret;exact⟨.no hf.out,xp.out⟩
   have e1:(xf != sf)=false:=(by simpa using d1);by_cases d2:xt=yf;rotate_left
   ·as_aux_lemma =>
    have hf:Pv (¬ CS rk ss ⟨sf,st,sw,-1,i,j⟩):=λ h=>d2 (GJ.out.1 h).2.1;have hd:(xt != yf)=true:=(by simpa using d2);clear d1 d2 GJ;go_wp2_with fail;go_ret;exact⟨.no hf.out,xp.out⟩
   have e2:(xt != yf)=false:=(by simpa using d2);by_cases d3:yt=st;rotate_left
   ·as_aux_lemma =>
    have hf:Pv (¬ CS rk ss ⟨sf,st,sw,-1,i,j⟩):=λ h=>d3 (GJ.out.1 h).2.2.1;have hd:(yt != st)=true:=(by simpa using d3);clear d1 d2 d3 GJ;go_wp2_with fail;go_ret;exact⟨.no hf.out,xp.out⟩
   have e3:(yt != st)=false:=(by simpa using d3);by_cases d4:im (xw+yw)=sw;rotate_left
   ·as_aux_lemma =>
    have hf:Pv (¬ CS rk ss ⟨sf,st,sw,-1,i,j⟩):=λ h=>d4 (GJ.out.1 h).2.2.2.1;have hd:(PI.wrap (xw+yw) != sw)=true:=by
     have d4':¬ PI.wrap (xw+yw)=sw:=d4;simpa using d4'
    clear d1 d2 d3 d4 GJ;go_wp2_with fail;go_ret;exact⟨.no hf.out,xp.out⟩
   have e4:(PI.wrap (xw+yw) != sw)=false:=by
    have d4':PI.wrap (xw+yw)=sw:=d4;simpa using d4'
   as_aux_lemma =>
    have hsf:0<=sf/\sf<(n:Int):=(by omega);have CW:0<=st/\st<(n:Int):=(by omega);obtain⟨t,rfl⟩:=Pq inx.2.2.1;obtain⟨f,rfl⟩:=Pq hsf.1;obtain⟨g,rfl⟩:=Pq CW.1;have a1:(t:Int)<(n:Int):=inx.2.2.2;have a2:(f:Int)<(n:Int):=hsf.2;have a3:(g:Int)<(n:Int):=CW.2;have a4:(0:Int)<=(t:Int):=(by omega);have a5:(0:Int)<=(f:Int):=(by omega);have a6:(0:Int)<=(g:Int):=(by omega);have AY:=xB.out.grew xp.out;obtain⟨br,ofr,hAr,_,rt⟩:=AY _ _ (ND a4 (by rw[HN.out];exact a1));obtain⟨br2,ofr2,hAr2,_,rf⟩:=AY _ _ (ND a5 (by rw[HN.out];exact a2));obtain⟨br3,ofr3,hAr3,_,rg⟩:=AY _ _ (ND a6 (by rw[HN.out];exact a3));rw[hAr]at hAr2 hAr3;cases hAr2;cases hAr3;subst hAr;simp only[Ps]at rt rf rg;have hB:Pv (CS rk ss ⟨f,g,sw,-1,i,j⟩↔rk.getD t 0<min (rk.getD f 0) (rk.getD g 0)):=by
     show _↔_;rw[GJ.out];exact⟨λ h=>by simpa using h.2.2.2.2,λ h=>⟨d1,d2,d3,d4,by simpa using h⟩⟩
    obtain⟨rt',Kr⟩:∃ q,rk.getD t 0=q:=⟨_,rfl⟩;obtain⟨rf',LB⟩:∃ q,rk.getD f 0=q:=⟨_,rfl⟩;obtain⟨rg',JM⟩:∃ q,rk.getD g 0=q:=⟨_,rfl⟩;rw[Kr]at rt hB;rw[LB]at rf hB;rw[JM]at rg hB;clear AY Kr LB JM GJ d1 d2 d3 d4 hsf CW inx iny;rcases Pr rg' rf' with mm | mm
    ·have hC:Pv (rt'<rg'↔CS rk ss ⟨f,g,sw,-1,i,j⟩):=by
      show _↔_;rw[hB.out,Int.min_eq_right (by omega)]
     clear hB;go_upto_region 7 with fail;refine rG [] (λ _=>False) ?_;refine pG 0 74 ?_;refine pG 1 75 ?_;refine tG 2 76 (y:=λ w' Ah=>by have AX:=ze Ah (show wc.drew.cell? _=_ from x1);have IL:=ze Ah (show wc.drew.cell? _=_ from s0);have CR:=ze Ah (show wc.drew.cell? _=_ from s1);have Kr:=ze Ah (show wc.drew.cell? _=_ from rt);have LB:=ze Ah (show wc.drew.cell? _=_ from rf);have JM:=ze Ah (show wc.drew.cell? _=_ from rg);go_simp<;>with_reducible rfl) (h:=?_);refine pG 3 77 ?_;refine tG 4 78 (y:=λ w' Ah=>by have AX:=ze Ah (show wc.drew.cell? _=_ from x1);have IL:=ze Ah (show wc.drew.cell? _=_ from s0);have CR:=ze Ah (show wc.drew.cell? _=_ from s1);have Kr:=ze Ah (show wc.drew.cell? _=_ from rt);have LB:=ze Ah (show wc.drew.cell? _=_ from rf);have JM:=ze Ah (show wc.drew.cell? _=_ from rg);go_simp<;>with_reducible rfl) (h:=?_);refine pG 5 79 ?_;refine pG 6 80 ?_;refine tG 7 81 (y:=λ w' Ah=>by have AX:=ze Ah (show wc.drew.cell? _=_ from x1);have IL:=ze Ah (show wc.drew.cell? _=_ from s0);have CR:=ze Ah (show wc.drew.cell? _=_ from s1);have Kr:=ze Ah (show wc.drew.cell? _=_ from rt);have LB:=ze Ah (show wc.drew.cell? _=_ from rf);have JM:=ze Ah (show wc.drew.cell? _=_ from rg);go_simp<;>with_reducible rfl) (h:=?_);refine pG 8 82 ?_;refine tG 9 83 (y:=λ w' Ah=>by have AX:=ze Ah (show wc.drew.cell? _=_ from x1);have IL:=ze Ah (show wc.drew.cell? _=_ from s0);have CR:=ze Ah (show wc.drew.cell? _=_ from s1);have Kr:=ze Ah (show wc.drew.cell? _=_ from rt);have LB:=ze Ah (show wc.drew.cell? _=_ from rf);have JM:=ze Ah (show wc.drew.cell? _=_ from rg);go_simp<;>with_reducible rfl) (h:=?_);refine pG 10 84 ?_;refine pG 11 85 ?_;refine tG 12 86 (y:=λ w' Ah=>by have AX:=ze Ah (show wc.drew.cell? _=_ from x1);have IL:=ze Ah (show wc.drew.cell? _=_ from s0);have CR:=ze Ah (show wc.drew.cell? _=_ from s1);have Kr:=ze Ah (show wc.drew.cell? _=_ from rt);have LB:=ze Ah (show wc.drew.cell? _=_ from rf);have JM:=ze Ah (show wc.drew.cell? _=_ from rg);go_simp<;>with_reducible rfl) (h:=?_);refine pG 13 87 ?_;refine tG 14 88 (y:=λ w' Ah=>by have AX:=ze Ah (show wc.drew.cell? _=_ from x1);have IL:=ze Ah (show wc.drew.cell? _=_ from s0);have CR:=ze Ah (show wc.drew.cell? _=_ from s1);have Kr:=ze Ah (show wc.drew.cell? _=_ from rt);have LB:=ze Ah (show wc.drew.cell? _=_ from rf);have JM:=ze Ah (show wc.drew.cell? _=_ from rg);go_simp<;>with_reducible rfl) (h:=?_);refine pG 15 89 ?_;refine pG 16 90 ?_;refine pG 17 6 ?_;refine dG ?_;go_wp2_with fail;go_ret;exact⟨⟨_,rfl,by rw[decide_eq_true_iff];exact hC.out⟩,xp.out.drew⟩
    ·have hC:Pv (rt'<rf'↔CS rk ss ⟨f,g,sw,-1,i,j⟩):=by
      show _↔_;rw[hB.out,Int.min_eq_left mm]
     clear hB;go_upto_region 7 with fail;refine rG [] (λ _=>False) ?_;refine pG 0 74 ?_;refine pG 1 75 ?_;refine tG 2 76 (y:=λ w' Ah=>by have AX:=ze Ah (show wc.drew.cell? _=_ from x1);have IL:=ze Ah (show wc.drew.cell? _=_ from s0);have CR:=ze Ah (show wc.drew.cell? _=_ from s1);have Kr:=ze Ah (show wc.drew.cell? _=_ from rt);have LB:=ze Ah (show wc.drew.cell? _=_ from rf);have JM:=ze Ah (show wc.drew.cell? _=_ from rg);go_simp<;>with_reducible rfl) (h:=?_);refine pG 3 77 ?_;refine tG 4 78 (y:=λ w' Ah=>by have AX:=ze Ah (show wc.drew.cell? _=_ from x1);have IL:=ze Ah (show wc.drew.cell? _=_ from s0);have CR:=ze Ah (show wc.drew.cell? _=_ from s1);have Kr:=ze Ah (show wc.drew.cell? _=_ from rt);have LB:=ze Ah (show wc.drew.cell? _=_ from rf);have JM:=ze Ah (show wc.drew.cell? _=_ from rg);go_simp<;>with_reducible rfl) (h:=?_);refine pG 5 79 ?_;refine pG 6 80 ?_;refine tG 7 81 (y:=λ w' Ah=>by have AX:=ze Ah (show wc.drew.cell? _=_ from x1);have IL:=ze Ah (show wc.drew.cell? _=_ from s0);have CR:=ze Ah (show wc.drew.cell? _=_ from s1);have Kr:=ze Ah (show wc.drew.cell? _=_ from rt);have LB:=ze Ah (show wc.drew.cell? _=_ from rf);have JM:=ze Ah (show wc.drew.cell? _=_ from rg);go_simp<;>with_reducible rfl) (h:=?_);refine pG 8 82 ?_;refine tG 9 83 (y:=λ w' Ah=>by have AX:=ze Ah (show wc.drew.cell? _=_ from x1);have IL:=ze Ah (show wc.drew.cell? _=_ from s0);have CR:=ze Ah (show wc.drew.cell? _=_ from s1);have Kr:=ze Ah (show wc.drew.cell? _=_ from rt);have LB:=ze Ah (show wc.drew.cell? _=_ from rf);have JM:=ze Ah (show wc.drew.cell? _=_ from rg);go_simp<;>with_reducible rfl) (h:=?_);refine pG 10 84 ?_;refine pG 11 85 ?_;refine tG 12 86 (y:=λ w' Ah=>by have AX:=ze Ah (show wc.drew.cell? _=_ from x1);have IL:=ze Ah (show wc.drew.cell? _=_ from s0);have CR:=ze Ah (show wc.drew.cell? _=_ from s1);have Kr:=ze Ah (show wc.drew.cell? _=_ from rt);have LB:=ze Ah (show wc.drew.cell? _=_ from rf);have JM:=ze Ah (show wc.drew.cell? _=_ from rg);go_simp<;>with_reducible rfl) (h:=?_);refine pG 13 87 ?_;refine tG 14 88 (y:=λ w' Ah=>by have AX:=ze Ah (show wc.drew.cell? _=_ from x1);have IL:=ze Ah (show wc.drew.cell? _=_ from s0);have CR:=ze Ah (show wc.drew.cell? _=_ from s1);have Kr:=ze Ah (show wc.drew.cell? _=_ from rt);have LB:=ze Ah (show wc.drew.cell? _=_ from rf);have JM:=ze Ah (show wc.drew.cell? _=_ from rg);go_simp<;>with_reducible rfl) (h:=?_);refine pG 15 89 ?_;refine pG 16 90 ?_;refine pG 17 6 ?_;refine dG ?_;go_wp2_with fail;go_ret;exact⟨⟨_,rfl,by rw[decide_eq_true_iff];exact hC.out⟩,xp.out.drew⟩
theorem Bj.news {w:Pm} {a:Pn} {es:List AB} (h:Bj w (some a) es):∀ j u,(cellsOf es)[j]? = some u->w.cell? (a.add j)=some u:=by
 intro j u hj;have hl:j<es.length*3:=by
  rw[<- Da];exact(PB.1 hj).1
 have hd:=Nat.div_add_mod j 3;have hm:=Nat.mod_lt j (show 0<3 by decide);obtain⟨e,he⟩:=zx (l:=es) (i:=j/3) (by omega);obtain⟨b,off,hA,_,h0,h1,h2⟩:=h (j/3) e he;cases hA;have hc:=C0 es (j/3) (j%3) e he hm;rw[show j/3*3+j%3=j by omega,hj]at hc;have ha:(⟨b,off,none⟩:Pn).add j=⟨b,off+j,none⟩:=by unfold Addr.add;split<;>simp_all
 rw[ha];have hj3:j%3=0\/j%3=1\/j%3=2:=(by omega);rcases hj3 with g | g | g
 ·rw[g]at hc;rw[show off+j=off+j/3*3 by omega,h0];simp[BB]at hc;simp[hc]
 ·rw[g]at hc;rw[show off+j=off+j/3*3+1 by omega,h1];simp[BB]at hc;simp[hc]
 ·rw[g]at hc;rw[show off+j=off+j/3*3+2 by omega,h2];simp[BB]at hc;simp[hc]
theorem Hl (es:List AB):∀ u∈cellsOf es,u.oneCell'=true:=by
 intro u hu;simp only[cellsOf,List.mem_flatMap]at hu;obtain⟨e,_,he⟩:=hu;simp[BB]at he;rcases he with rfl | rfl | rfl<;>rfl
theorem Bc.empty (w:Pm) (B:Nat) (hB:B<=w.heap.size):Bc (w.alloc (.cells #[] 65)) B (.slice (some ⟨w.heap.size,0,none⟩) 0 0) [] :=
 ⟨rfl,.inr ⟨w.heap.size,0,#[],rfl,hB,heap_alloc_new w _,zl _,by unfold maxLen;omega,rfl,rfl⟩⟩
theorem eK (A:Option Pn) (c:Nat) (es:List AB) (w:Pm) (h:Bj w A es) (hl:es.length<=100000) :
  Po B_ 190 #[.slice A es.length c] w λ e w'=>∃ v,e=.returned v/\Bc w' w.heap.size v es/\Ac w w':=by
 obtain⟨i0,hi,Cu,BV,Cj⟩:=info_parts IP
 have hq:=λ w a n c=>Lib.run_eql_slice_nil (P:=B_) w 22 65 a n c 0 0 Pk
 cases A with
 | none =>
  obtain rfl:es=[]:=by
   cases es with
   | nil=>rfl
   | cons x es=>obtain⟨_,_,hA,_⟩:=h 0 x rfl;cases hA
  go_enter Tryz.func190,Tryz.ntmps190;go_wp2;go_ret;exact⟨_,rfl,World.ownsRow_nil _ _ _ _,zr _ _⟩
 | some a =>
  have hn:=zh (h.grew ((zr _ w).alloc (.cells #[] 65))).news;have hE:=zh (Bc.empty w w.heap.size (zl _));have h1:=zh (Hl es);have hL:=zh (Da es);clear h;go_enter Tryz.func190,Tryz.ntmps190;go_wp2_with (at_builtin;refine wpList_append_own _ rfl (.tmp 5) (.tmp 6) 22 (by rfl) w.heap.size 65 i0 (.agg #[i64 0,i64 0,u64 0]) 3 24 Pk hi Cu BV Cj (by rfl) (by omega) _ 0 [] rfl hE.out a es.length c (cellsOf es) rfl hL.out hn.out h1.out (by unfold maxLen;omega) (by omega) (by simp) ?_;intro v' w1 AV hg _);rw[Nat.zero_add,List.nil_append]at AV;go_wp2_with fail;go_ret;exact⟨_,rfl,AV,((zr (λ _=>False) w).alloc _).grown hg (λ k hk=>by cases hk;exact .inr (zl _))⟩
theorem C4 (n:Int) (A:Option Pn) (c:Nat) (es:List AB) (w:Pm) (h:Bj w A es) (hl:es.length<=100000) :
  Po B_ 136 #[.agg #[i64 n,.slice A es.length c]] w λ e w'=>∃ v,e=.returned (.agg #[i64 n,v])/\Bc w' w.heap.size v es/\Ac w w':=by
 have b0:Am ((w.alloc (.cells #[i64 n,.slice A es.length c] 24)).alloc (.cells #[i64 0,.slice none 0 0] 24)) w.heap.size 24 #[i64 n,.slice A es.length c]:=(zv w _ _).alloc _
 have b1:Am ((w.alloc (.cells #[i64 n,.slice A es.length c] 24)).alloc (.cells #[i64 0,.slice none 0 0] 24)) (w.heap.size+1) 24 #[i64 0,.slice none 0 0]:=by
  have h:=zv (w.alloc (.cells #[i64 n,.slice A es.length c] 24)) 24 #[i64 0,.slice none 0 0];rw[Pt]at h;exact h
 have BY:Ac w ((w.alloc (.cells #[i64 n,.slice A es.length c] 24)).alloc (.cells #[i64 0,.slice none 0 0] 24)):=((zr _ _).alloc _).alloc _
 have hE:=zh (h.grew BY)
 have hC:=zh (λ W h=>eK A c es W h hl)
 clear h
 obtain⟨L,hL⟩:=zn (es.length)
 have HL:=zh hL
 rw[hL]at b0 b1 BY hE hC
 rw[hL]
 clear hL
 go_enter Tryz.func136,Tryz.ntmps136
 go_wp2_with fail
 refine rG [6] (λ _=>False) ?_
 refine pG 0 3 ?_
 refine Bh 1 4 (v:=?_) rfl (by kernel_rfl) rfl (by rfl) (λ w' hG=>?_) ?_
 rotate_left
 ·have hx:=(b0.drew.grew hG).cell 0;simp at hx;go_simp<;>with_reducible rfl
 simp only[sA]
 refine pG 2 5 ?_
 refine Bh 3 6 (v:=?_) rfl (by kernel_rfl) rfl (by rfl) (λ w' hG=>?_) ?_
 rotate_left
 ·have hx:=(b0.drew.grew hG).cell 1;simp at hx;go_simp<;>with_reducible rfl
 simp only[sA]
 refine sG 4 7 (λ K Aj=>?_)
 go_simp
 refine(hC.out _ (zh (hE.out.grew (zr _ _).drew)).out).mono ?_
 rintro e w1 ⟨v,rfl,AV,k1⟩
 rw[World.size_drew]at AV
 obtain⟨A1,cc,rfl⟩:=Ap AV
 refine Aj _ _ (λ _=>k1) ?_
 clear Aj
 simp only[sA]
 refine pG 5 8 ?_
 refine DH 6 (λ K Aj=>?_)
 have b2:=b1.drew.grew k1
 have c0:=b2.cell 0
 have c1:=b2.cell 1
 have f0:=b2.frozen 0
 have f1:=b2.frozen 1
 simp at c0 c1
 go_simp
 refine Aj _ (λ h=>absurd (List.mem_singleton.2 rfl) h) ?_
 clear Aj
 refine dG ?_
 go_wp2_with fail
 obtain⟨q0,q1⟩:=CE (((b2.set 0 (i64 n)).set 1 (.slice A1 es.length cc)))
 have hF:Kept (·=w.heap.size+1) w1 ((w1.setCell ⟨w.heap.size+1,0,none⟩ (i64 n)).setCell ⟨w.heap.size+1,1,none⟩ (.slice A1 es.length cc)):=((zr (·=w.heap.size+1) w1).setCell (p:=⟨w.heap.size+1,0,none⟩) (.inl rfl) _).setCell (p:=⟨w.heap.size+1,1,none⟩) (.inl rfl) _
 refine zy (v:=.agg #[i64 n,.slice A1 es.length cc]) (by simp[results,Tryz.results136,go_sem,q0,q1]) rfl ⟨_,rfl,?_,?_⟩
 ·refine Az (Kept.own hF AV (λ k hk h=>?_)) (by simp;omega);have:=(AV.lt k hk).1;simp at this;omega
 ·have Ly:Ac w w1:=(BY.drew).trans k1;exact Ly.then hF (λ i hi h=>by have:i=w.heap.size+1:=h;omega)
theorem EW.take {w:Pm} {A:Option Pn} {ss:List Sc} (h:EW w A ss) (k:Nat):EW w A (ss.take k):=λ i s hs=>h i s (by
 rw[List.getElem?_take]at hs;split at hs
 ·exact hs
 ·cases hs)
theorem zAW {n:Int} {es:List AB} {rk:List Int} {ss:List Sc} (hr:Aq n es=0):∀ k,(∀ i s,i<k->ss[i]? = some s->Ce es s\/CS rk (ss.take i) s)->∀ x∈ss.take k,inN n x:=by
 intro k;induction k with
 | zero=>intro _ x hx;simp at hx
 | succ k ih =>
  intro ok x hx;have ih:=ih (λ i s hi=>ok i s (by omega));rw[Pz]at hx;rcases PA.1 hx with hx | hx
  ·exact ih x hx
  ·have hk:ss[k]? = some x:=(by simpa using hx);rcases ok k x (by omega) hk with h' | h'
   ·exact JF hr h'
   ·exact qn ih h'
def Om (n:Int) (es:List AB) (rk:List Int) (ss:List Sc) (e:Ending):Prop:=∃ k b,e=.returned (.tuple #[i64 k,.bool b])/\(b=true↔Aq n es=0/\made n es rk ss)/\(b=true->k=0)
theorem Om.no {n:Int} {es:List AB} {rk:List Int} {ss:List Sc} {k:Int} (h:¬ (Aq n es=0/\made n es rk ss)):Om n es rk ss (.returned (.tuple #[i64 k,.bool false])):=⟨k,false,rfl,⟨λ h=>(by cases h),λ hp=>absurd hp h⟩,λ h=>(by cases h)⟩
theorem Om.yes {n:Int} {es:List AB} {rk:List Int} {ss:List Sc} (h:Aq n es=0/\made n es rk ss):Om n es rk ss (.returned (.tuple #[i64 0,.bool true])):=⟨0,true,rfl,⟨λ _=>h,λ _=>rfl⟩,λ _=>rfl⟩
structure vg (n:Int) (es:List AB) (Ae:Option Pn) (L ce r0 lr m cr cs:Nat) (Ar As:Option Pn) (rk:List Int) (ss:List Sc) (w:Pm) (k:Nat) (wr:Pm):Prop where
 gb:Am wr r0 24 #[i64 n,.slice Ae L ce]
 hb:Am wr (r0+1) 87 #[.slice Ar lr cr,.slice As m cs]
 ok:∀ i s,i<k->ss[i]? = some s->Ce es s\/CS rk (ss.take i) s
 kept:Ac w wr
theorem vg.lit {n:Int} {es:List AB} {Ae:Option Pn} {L ce r0 lr m cr cs:Nat} {Ar As:Option Pn} {rk:List Int} {ss:List Sc} {w:Pm} {k:Nat} {wr W:Pm} (h:vg n es Ae L ce r0 lr m cr cs Ar As rk ss w k wr) (g:Ac wr W):vg n es Ae L ce r0 lr m cr cs Ar As rk ss w k W:=⟨h.gb.grew g,h.hb.grew g,h.ok,h.kept.trans g⟩
theorem vg.next {n:Int} {es:List AB} {Ae:Option Pn} {L ce r0 lr m cr cs:Nat} {Ar As:Option Pn} {rk:List Int} {ss:List Sc} {w:Pm} {k:Nat} {wr:Pm} {x:Sc} (h:vg n es Ae L ce r0 lr m cr cs Ar As rk ss w k wr) (hx:ss[k]? = some x) (hk:Ce es x\/CS rk (ss.take k) x):vg n es Ae L ce r0 lr m cr cs Ar As rk ss w (k+1) wr:=⟨h.gb,h.hb,λ i s hi hs=>by
 by_cases he:i=k
 ·subst he;rw[hx]at hs;cases hs;exact hk
 ·exact h.ok i s (by omega) hs,h.kept⟩
theorem pD (n:Int) (es:List AB) (Ae:Option Pn) (ce:Nat) (rk:List Int) (Ar:Option Pn) (cr:Nat) (ss:List Sc) (As:Option Pn) (cs:Nat) (w:Pm) (he:Bj w Ae es) (hr:RowI w Ar rk) (hs:EW w As ss)
  (hle:es.length<=100000) (GM:rk.length<=100000) (DY:ss.length<=100000) (Et:ss.length<=cs) :
  Po B_ 251 #[.agg #[i64 n,.slice Ae es.length ce],.agg #[.slice Ar rk.length cr,.slice As ss.length cs]] w λ e w'=>Om n es rk ss e/\Ac w w':=by
 obtain⟨r0,hr0⟩:=zn (w.heap.size)
 have HE:=zh he
 have xB:=zh hr
 have HSr:=zh hs
 obtain⟨L,hL⟩:=zn (es.length)
 obtain⟨lr,tK⟩:∃ L,rk.length=L:=⟨_,rfl⟩
 obtain⟨m,hm⟩:=zn (ss.length)
 have HL:=zh hL
 have HN:=zh tK
 have HM:=zh hm
 have k0:Ac w ((w.alloc (.cells #[i64 n,.slice Ae L ce] 24)).alloc (.cells #[.slice Ar lr cr,.slice As m cs] 87)):=((zr _ _).alloc _).alloc _
 have bG:=(zv w 24 #[i64 n,.slice Ae L ce]).alloc (.cells #[.slice Ar lr cr,.slice As m cs] 87)
 have bH:=zv (w.alloc (.cells #[i64 n,.slice Ae L ce] 24)) 87 #[.slice Ar lr cr,.slice As m cs]
 rw[Pt]at bH
 rw[hr0]at bG bH
 rw[hL]at hle
 rw[tK]at GM
 rw[hm]at DY Et
 rw[hL,tK,hm]
 obtain⟨W1,N8⟩:=zn ((w.alloc (.cells #[i64 n,.slice Ae L ce] 24)).alloc (.cells #[.slice Ar lr cr,.slice As m cs] 87))
 rw[N8]at k0 bG bH
 have hC:=zh (CH n Ae ce es W1 (he.grew k0) (by omega))
 rw[hL]at hC
 have Ci:Pv (vg n es Ae L ce r0 lr m cr cs Ar As rk ss w 0 W1):=⟨bG,bH,λ i s hi=>by omega,k0⟩
 obtain⟨g0,g1⟩:=CE bG
 clear he hr hs hL tK hm k0 bG bH
 go_enter Tryz.func251,Tryz.ntmps251
 go_wp2_with fail
 refine hC.out.mono ?_
 rintro e w1 ⟨rfl,k1⟩
 have BZ:=zh (Ci.out.lit k1)
 clear hC Ci k1 g0 g1
 by_cases dL:Aq n es=0
 rotate_left
 ·as_aux_lemma =>
  obtain⟨f,hf⟩:=zn (Aq n es);have Cx:Pv (¬ (Aq n es=0/\made n es rk ss)):=λ h=>dL h.1;rw[hf]at dL ⊢;have Lx:(f != 0)=true:=(by simpa using dL);have hk:=zh BZ.out.kept;clear BZ dL hf;go_wp2_with fail;go_ret2;exact⟨.no Cx.out,hk.out⟩
 rw[dL]
 have HF:=zh dL
 clear dL
 have g0:=BZ.out.gb.cell 0
 have h0:=BZ.out.hb.cell 0
 simp at g0 h0
 by_cases hn:(lr:Int)=n
 rotate_left
 ·as_aux_lemma =>
  have Cx:Pv (¬ (Aq n es=0/\made n es rk ss)):=λ h=>hn (by rw[<- HN.out];exact h.2.1);have Lx:((lr:Int) != n)=true:=(by simpa using hn);have hk:=zh BZ.out.kept;clear BZ hn;go_wp2_with fail;go_ret2;exact⟨.no Cx.out,hk.out⟩
 have Lx:((lr:Int) != n)=false:=by simpa using hn
 have hQ:=zh (Ck rk Ar cr w1 (xB.out.grew BZ.out.kept) (by rw[HN.out];omega))
 rw[HN.out]at hQ
 have Hn:=zh hn
 clear hn
 go_wp2_with fail
 refine hQ.out.mono ?_
 rintro e w2 ⟨⟨b,rfl,hb⟩,k2⟩
 have Jo:=zh (BZ.out.lit k2)
 clear hQ BZ k2
 cases b with
 | false =>
  as_aux_lemma =>
  have Cx:Pv (¬ (Aq n es=0/\made n es rk ss)):=λ h=>by have:=hb.2 h.2.2.1;cases this
  have hk:=zh Jo.out.kept;clear Jo hb;go_wp2_with fail;go_ret2;exact⟨.no Cx.out,hk.out⟩
 | true =>
 have HRO:=zh (hb.1 rfl)
 clear hb g0 h0
 have h1:=Jo.out.hb.cell 1
 simp at h1
 go_wp2_with fail
 go_loopw [28] (λ i wr=>∃ (k:Nat),k<=m/\i=.int .i64 k/\Pv (vg n es Ae L ce r0 lr m cr cs Ar As rk ss w k wr)) (λ i _=>m-(intOf i).toNat)
 case atStart=>exact⟨0,by omega,rfl,Jo.out⟩
 case round =>
  clear Jo h1;obtain⟨k,hk,rfl,hS⟩:=hrel;by_cases AH:k<m
  ·as_aux_lemma =>
   have l1:(k:Int)<(m:Int):=(by omega);have l0:(0:Int)<=(k:Int):=(by omega);have l2:(k:Int)<=(cs:Int):=(by omega);obtain⟨x,hx⟩:=zx (l:=ss) (i:=k) (by rw[HM.out];exact AH);obtain⟨b,off,hAs,tp,x0,x1,x2,x3,x4,x5⟩:=HSr.out k x hx;have HX:=zh hx;subst hAs;replace x0:=ze hS.out.kept x0;replace x1:=ze hS.out.kept x1;replace x2:=ze hS.out.kept x2;replace x3:=ze hS.out.kept x3;replace x4:=ze hS.out.kept x4;replace x5:=ze hS.out.kept x5;have gE:Ac wr (wr.alloc (.cells #[i64 x.from',i64 x.to',.int .u64 x.w,i64 x.edge,i64 x.a,i64 x.b] 150)):=(zr _ _).alloc _;have bE:=zv wr 150 #[i64 x.from',i64 x.to',.int .u64 x.w,i64 x.edge,i64 x.a,i64 x.b];have E4:=zh (hS.out.lit gE);obtain⟨E,hE⟩:=zn (wr.heap.size);rw[hE]at bE;obtain⟨W4,hW4⟩:=zn (wr.alloc (.cells #[i64 x.from',i64 x.to',.int .u64 x.w,i64 x.edge,i64 x.a,i64 x.b] 150));rw[hW4]at bE E4;have e0:=bE.cell 0;have e1:=bE.cell 1;have e2:=bE.cell 2;have e3:=bE.cell 3;have e4:=bE.cell 4;have e5:=bE.cell 5;have g0:=E4.out.gb.cell 0;have g1:=E4.out.gb.cell 1;have h0:=E4.out.hb.cell 0;have h1:=E4.out.hb.cell 1;simp at e0 e1 e2 e3 e4 e5 g0 g1 h0 h1;have Ir:Pv (∀ W,Ac W4 W->Po B_ 320 #[.agg #[i64 n,.slice Ae L ce],.agg #[i64 x.from',i64 x.to',.int .u64 x.w,i64 x.edge,i64 x.a,i64 x.b]] W λ e w'=>FA (Ce es x) e/\Ac W w'):=λ W k=>by
    have h:=jx n Ae ce es x W (HE.out.grew (E4.out.kept.trans k)) (by rw[HL.out];omega);rw[HL.out]at h;exact h
   have sk:Pv (∀ W,Ac W4 W->Po B_ 321 #[.slice Ar lr cr,.slice (some ⟨b,off,none⟩) k cs,.agg #[i64 x.from',i64 x.to',.int .u64 x.w,i64 x.edge,i64 x.a,i64 x.b]] W λ e w'=>FA (CS rk (ss.take k) x) e/\Ac W w'):=λ W kk=>by
    have h:=uM rk (ss.take k) Ar (some ⟨b,off,none⟩) cr cs x W (xB.out.grew (E4.out.kept.trans kk)) ((HSr.out.grew (E4.out.kept.trans kk)).take k) (by rw[HN.out];omega) (by rw[PG,HM.out];omega)
     (by rw[HN.out,Hn.out];exact zAW HF.out k E4.out.ok)
    rw[HN.out,PG,HM.out,Nat.min_eq_left hk]at h;exact h
   clear bE gE hS hx;by_cases cl:Ce es x
   ·as_aux_lemma =>
    have Lw:=zh (E4.out.next HX.out (.inl cl));have bL:=zh cl;clear cl E4;go_upto_region 8 with fail;refine rG [] (λ _=>False) ?_;refine Bh 0 33 (v:=?_) rfl (by kernel_rfl) rfl (by rfl) (λ w' Ah=>?_) ?_;rotate_left
    ·have cx:=ze Ah (show W4.drew.cell? _=_ from g0);have GI:=ze Ah (show W4.drew.cell? _=_ from g1);have ou:=ze Ah (show W4.drew.cell? _=_ from h0);have ox:=ze Ah (show W4.drew.cell? _=_ from h1);have JH:=ze Ah (show W4.drew.cell? _=_ from e0);have LR:=ze Ah (show W4.drew.cell? _=_ from e1);have Ms:=ze Ah (show W4.drew.cell? _=_ from e2);have lR:=ze Ah (show W4.drew.cell? _=_ from e3);have oe:=ze Ah (show W4.drew.cell? _=_ from e4);have og:=ze Ah (show W4.drew.cell? _=_ from e5);go_simp<;>(try simp only [A_,if_false])<;>with_reducible rfl
    simp only[sA];refine Bh 1 34 (v:=?_) rfl (by kernel_rfl) rfl (by rfl) (λ w' Ah=>?_) ?_;rotate_left
    ·have cx:=ze Ah (show W4.drew.cell? _=_ from g0);have GI:=ze Ah (show W4.drew.cell? _=_ from g1);have ou:=ze Ah (show W4.drew.cell? _=_ from h0);have ox:=ze Ah (show W4.drew.cell? _=_ from h1);have JH:=ze Ah (show W4.drew.cell? _=_ from e0);have LR:=ze Ah (show W4.drew.cell? _=_ from e1);have Ms:=ze Ah (show W4.drew.cell? _=_ from e2);have lR:=ze Ah (show W4.drew.cell? _=_ from e3);have oe:=ze Ah (show W4.drew.cell? _=_ from e4);have og:=ze Ah (show W4.drew.cell? _=_ from e5);go_simp<;>(try simp only [A_,if_false])<;>with_reducible rfl
    simp only[sA];refine sG 2 35 (λ K Aj=>?_);go_simp;refine(Ir.out _ ((zr _ _).drew)).mono ?_;rintro e wS ⟨⟨b1,rfl,Fq⟩,kS⟩;obtain rfl:b1=true:=Fq.2 bL.out;refine Aj _ _ (λ _=>kS) ?_;clear Aj;simp only[sA];refine AN 3 36 (v:=?_) rfl (by kernel_rfl) rfl (by rfl) (λ w'=>?_) ?_;rotate_left
    ·go_simp<;>(try simp only [A_,if_false])<;>with_reducible rfl
    simp only[sA];refine AN 4 37 (v:=?_) rfl (by kernel_rfl) rfl (by rfl) (λ w'=>?_) ?_;rotate_left
    ·go_simp<;>(try simp only [A_,if_false])<;>with_reducible rfl
    simp only[sA];refine qG 5 38 ?_;refine qG 6 39 ?_;refine qG 7 40 ?_;refine qG 8 41 ?_;refine qG 9 42 ?_;refine qG 10 43 ?_;refine qG 11 44 ?_;refine qG 12 45 ?_;refine qG 13 46 ?_;refine AN 14 47 (v:=?_) rfl (by kernel_rfl) rfl (by rfl) (λ w'=>?_) ?_;rotate_left
    ·go_simp<;>(try simp only [A_,if_false])<;>with_reducible rfl
    simp only[sA];refine dG ?_;have hS6:=zh (Lw.out.lit ((zr (λ _=>False) W4).drew.trans kS));clear Lw kS Fq Ir sk e0 e1 e2 e3 e4 e5 x0 x1 x2 x3 x4 x5 g0 g1 h0 h1;go_wp2_with fail;go_roundw
    case rel=>exact⟨k+1,by omega,by go_num,hS6⟩
    case measure=>simp[intOf];omega
   ·by_cases hT:CS rk (ss.take k) x
    ·as_aux_lemma =>
     have Lw:=zh (E4.out.next HX.out (.inr hT));have bL:=zh cl;have HT:=zh hT;clear cl hT E4;go_upto_region 8 with fail;refine rG [] (λ _=>False) ?_;refine Bh 0 33 (v:=?_) rfl (by kernel_rfl) rfl (by rfl) (λ w' Ah=>?_) ?_;rotate_left
     ·have cx:=ze Ah (show W4.drew.cell? _=_ from g0);have GI:=ze Ah (show W4.drew.cell? _=_ from g1);have ou:=ze Ah (show W4.drew.cell? _=_ from h0);have ox:=ze Ah (show W4.drew.cell? _=_ from h1);have JH:=ze Ah (show W4.drew.cell? _=_ from e0);have LR:=ze Ah (show W4.drew.cell? _=_ from e1);have Ms:=ze Ah (show W4.drew.cell? _=_ from e2);have lR:=ze Ah (show W4.drew.cell? _=_ from e3);have oe:=ze Ah (show W4.drew.cell? _=_ from e4);have og:=ze Ah (show W4.drew.cell? _=_ from e5);go_simp<;>(try simp only [A_,if_false])<;>with_reducible rfl
     simp only[sA];refine Bh 1 34 (v:=?_) rfl (by kernel_rfl) rfl (by rfl) (λ w' Ah=>?_) ?_;rotate_left
     ·have cx:=ze Ah (show W4.drew.cell? _=_ from g0);have GI:=ze Ah (show W4.drew.cell? _=_ from g1);have ou:=ze Ah (show W4.drew.cell? _=_ from h0);have ox:=ze Ah (show W4.drew.cell? _=_ from h1);have JH:=ze Ah (show W4.drew.cell? _=_ from e0);have LR:=ze Ah (show W4.drew.cell? _=_ from e1);have Ms:=ze Ah (show W4.drew.cell? _=_ from e2);have lR:=ze Ah (show W4.drew.cell? _=_ from e3);have oe:=ze Ah (show W4.drew.cell? _=_ from e4);have og:=ze Ah (show W4.drew.cell? _=_ from e5);go_simp<;>(try simp only [A_,if_false])<;>with_reducible rfl
     simp only[sA];refine sG 2 35 (λ K Aj=>?_);go_simp;refine(Ir.out _ ((zr _ _).drew)).mono ?_;rintro e wS ⟨⟨b1,rfl,Fq⟩,kS⟩;obtain rfl:b1=false:=by
      cases b1 with
      | false=>rfl
      | true=>exact absurd (Fq.1 rfl) bL.out
     refine Aj _ _ (λ _=>kS) ?_;clear Aj;simp only[sA];refine AN 3 36 (v:=?_) rfl (by kernel_rfl) rfl (by rfl) (λ w'=>?_) ?_;rotate_left
     ·go_simp<;>(try simp only [A_,if_false])<;>with_reducible rfl
     simp only[sA];refine AN 4 37 (v:=?_) rfl (by kernel_rfl) rfl (by rfl) (λ w'=>?_) ?_;rotate_left
     ·go_simp<;>(try simp only [A_,if_false])<;>with_reducible rfl
     simp only[sA];refine AN 5 38 (v:=?_) rfl (by kernel_rfl) rfl (by rfl) (λ w'=>?_) ?_;rotate_left
     ·go_simp<;>(try simp only [A_,if_false])<;>with_reducible rfl
     simp only[sA];refine Bh 6 39 (v:=?_) rfl (by kernel_rfl) rfl (by rfl) (λ w' Ah=>?_) ?_;rotate_left
     ·have cx:=ze Ah (ze kS (show W4.drew.cell? _=_ from g0));have GI:=ze Ah (ze kS (show W4.drew.cell? _=_ from g1));have ou:=ze Ah (ze kS (show W4.drew.cell? _=_ from h0));have ox:=ze Ah (ze kS (show W4.drew.cell? _=_ from h1));have JH:=ze Ah (ze kS (show W4.drew.cell? _=_ from e0));have LR:=ze Ah (ze kS (show W4.drew.cell? _=_ from e1));have Ms:=ze Ah (ze kS (show W4.drew.cell? _=_ from e2));have lR:=ze Ah (ze kS (show W4.drew.cell? _=_ from e3));have oe:=ze Ah (ze kS (show W4.drew.cell? _=_ from e4));have og:=ze Ah (ze kS (show W4.drew.cell? _=_ from e5));go_simp<;>(try simp only [A_,if_false])<;>with_reducible rfl
     simp only[sA];refine AN 7 40 (v:=?_) rfl (by kernel_rfl) rfl (by rfl) (λ w'=>?_) ?_;rotate_left
     ·go_simp<;>(try simp only [A_,if_false])<;>with_reducible rfl
     simp only[sA];refine Bh 8 41 (v:=?_) rfl (by kernel_rfl) rfl (by rfl) (λ w' Ah=>?_) ?_;rotate_left
     ·have cx:=ze Ah (ze kS (show W4.drew.cell? _=_ from g0));have GI:=ze Ah (ze kS (show W4.drew.cell? _=_ from g1));have ou:=ze Ah (ze kS (show W4.drew.cell? _=_ from h0));have ox:=ze Ah (ze kS (show W4.drew.cell? _=_ from h1));have JH:=ze Ah (ze kS (show W4.drew.cell? _=_ from e0));have LR:=ze Ah (ze kS (show W4.drew.cell? _=_ from e1));have Ms:=ze Ah (ze kS (show W4.drew.cell? _=_ from e2));have lR:=ze Ah (ze kS (show W4.drew.cell? _=_ from e3));have oe:=ze Ah (ze kS (show W4.drew.cell? _=_ from e4));have og:=ze Ah (ze kS (show W4.drew.cell? _=_ from e5));go_simp<;>(try simp only [A_,if_false])<;>with_reducible rfl
     simp only[sA];refine AN 9 42 (v:=?_) rfl (by kernel_rfl) rfl (by rfl) (λ w'=>?_) ?_;rotate_left
     ·go_simp<;>(try simp only [A_,if_false])<;>with_reducible rfl
     simp only[sA];refine AN 10 43 (v:=?_) rfl (by kernel_rfl) rfl (by rfl) (λ w'=>?_) ?_;rotate_left
     ·go_simp<;>(try simp only [A_,if_false])<;>with_reducible rfl
     simp only[sA];refine Bh 11 44 (v:=?_) rfl (by kernel_rfl) rfl (by rfl) (λ w' Ah=>?_) ?_;rotate_left
     ·have cx:=ze Ah (ze kS (show W4.drew.cell? _=_ from g0));have GI:=ze Ah (ze kS (show W4.drew.cell? _=_ from g1));have ou:=ze Ah (ze kS (show W4.drew.cell? _=_ from h0));have ox:=ze Ah (ze kS (show W4.drew.cell? _=_ from h1));have JH:=ze Ah (ze kS (show W4.drew.cell? _=_ from e0));have LR:=ze Ah (ze kS (show W4.drew.cell? _=_ from e1));have Ms:=ze Ah (ze kS (show W4.drew.cell? _=_ from e2));have lR:=ze Ah (ze kS (show W4.drew.cell? _=_ from e3));have oe:=ze Ah (ze kS (show W4.drew.cell? _=_ from e4));have og:=ze Ah (ze kS (show W4.drew.cell? _=_ from e5));go_simp<;>(try simp only [A_,if_false])<;>with_reducible rfl
     simp only[sA];refine sG 12 45 (λ K Aj=>?_);go_simp;refine(sk.out _ ((zr (λ _=>False) W4).drew.trans kS)).mono ?_;rintro e wT ⟨⟨b2,rfl,FY⟩,kT⟩;obtain rfl:b2=true:=FY.2 HT.out;refine Aj _ _ (λ _=>kT) ?_;clear Aj;simp only[sA];refine AN 13 46 (v:=?_) rfl (by kernel_rfl) rfl (by rfl) (λ w'=>?_) ?_;rotate_left
     ·go_simp<;>(try simp only [A_,if_false])<;>with_reducible rfl
     simp only[sA];refine AN 14 47 (v:=?_) rfl (by kernel_rfl) rfl (by rfl) (λ w'=>?_) ?_;rotate_left
     ·go_simp<;>(try simp only [A_,if_false])<;>with_reducible rfl
     simp only[sA];refine dG ?_;have hS6:=zh (Lw.out.lit (((zr (λ _=>False) W4).drew.trans kS).trans kT));clear Lw kS kT Fq FY Ir sk e0 e1 e2 e3 e4 e5 x0 x1 x2 x3 x4 x5 g0 g1 h0 h1;go_wp2_with fail;go_roundw
     case rel=>exact⟨k+1,by omega,by go_num,hS6⟩
     case measure=>simp[intOf];omega
    ·as_aux_lemma =>
     have Cx:Pv (¬ (Aq n es=0/\made n es rk ss)):=λ h=>by
      rcases h.2.2.2 k x HX.out with h | h
      ·exact cl h
      ·exact hT h
     have bL:=zh cl;have HT:=zh hT;clear cl hT;go_upto_region 8 with fail;refine rG [] (λ _=>False) ?_;refine Bh 0 33 (v:=?_) rfl (by kernel_rfl) rfl (by rfl) (λ w' Ah=>?_) ?_;rotate_left
     ·have cx:=ze Ah (show W4.drew.cell? _=_ from g0);have GI:=ze Ah (show W4.drew.cell? _=_ from g1);have ou:=ze Ah (show W4.drew.cell? _=_ from h0);have ox:=ze Ah (show W4.drew.cell? _=_ from h1);have JH:=ze Ah (show W4.drew.cell? _=_ from e0);have LR:=ze Ah (show W4.drew.cell? _=_ from e1);have Ms:=ze Ah (show W4.drew.cell? _=_ from e2);have lR:=ze Ah (show W4.drew.cell? _=_ from e3);have oe:=ze Ah (show W4.drew.cell? _=_ from e4);have og:=ze Ah (show W4.drew.cell? _=_ from e5);go_simp<;>(try simp only [A_,if_false])<;>with_reducible rfl
     simp only[sA];refine Bh 1 34 (v:=?_) rfl (by kernel_rfl) rfl (by rfl) (λ w' Ah=>?_) ?_;rotate_left
     ·have cx:=ze Ah (show W4.drew.cell? _=_ from g0);have GI:=ze Ah (show W4.drew.cell? _=_ from g1);have ou:=ze Ah (show W4.drew.cell? _=_ from h0);have ox:=ze Ah (show W4.drew.cell? _=_ from h1);have JH:=ze Ah (show W4.drew.cell? _=_ from e0);have LR:=ze Ah (show W4.drew.cell? _=_ from e1);have Ms:=ze Ah (show W4.drew.cell? _=_ from e2);have lR:=ze Ah (show W4.drew.cell? _=_ from e3);have oe:=ze Ah (show W4.drew.cell? _=_ from e4);have og:=ze Ah (show W4.drew.cell? _=_ from e5);go_simp<;>(try simp only [A_,if_false])<;>with_reducible rfl
     simp only[sA];refine sG 2 35 (λ K Aj=>?_);go_simp;refine(Ir.out _ ((zr _ _).drew)).mono ?_;rintro e wS ⟨⟨b1,rfl,Fq⟩,kS⟩;obtain rfl:b1=false:=by
      cases b1 with
      | false=>rfl
      | true=>exact absurd (Fq.1 rfl) bL.out
     refine Aj _ _ (λ _=>kS) ?_;clear Aj;simp only[sA];refine AN 3 36 (v:=?_) rfl (by kernel_rfl) rfl (by rfl) (λ w'=>?_) ?_;rotate_left
     ·go_simp<;>(try simp only [A_,if_false])<;>with_reducible rfl
     simp only[sA];refine AN 4 37 (v:=?_) rfl (by kernel_rfl) rfl (by rfl) (λ w'=>?_) ?_;rotate_left
     ·go_simp<;>(try simp only [A_,if_false])<;>with_reducible rfl
     simp only[sA];refine AN 5 38 (v:=?_) rfl (by kernel_rfl) rfl (by rfl) (λ w'=>?_) ?_;rotate_left
     ·go_simp<;>(try simp only [A_,if_false])<;>with_reducible rfl
     simp only[sA];refine Bh 6 39 (v:=?_) rfl (by kernel_rfl) rfl (by rfl) (λ w' Ah=>?_) ?_;rotate_left
     ·have cx:=ze Ah (ze kS (show W4.drew.cell? _=_ from g0));have GI:=ze Ah (ze kS (show W4.drew.cell? _=_ from g1));have ou:=ze Ah (ze kS (show W4.drew.cell? _=_ from h0));have ox:=ze Ah (ze kS (show W4.drew.cell? _=_ from h1));have JH:=ze Ah (ze kS (show W4.drew.cell? _=_ from e0));have LR:=ze Ah (ze kS (show W4.drew.cell? _=_ from e1));have Ms:=ze Ah (ze kS (show W4.drew.cell? _=_ from e2));have lR:=ze Ah (ze kS (show W4.drew.cell? _=_ from e3));have oe:=ze Ah (ze kS (show W4.drew.cell? _=_ from e4));have og:=ze Ah (ze kS (show W4.drew.cell? _=_ from e5));go_simp<;>(try simp only [A_,if_false])<;>with_reducible rfl
     simp only[sA];refine AN 7 40 (v:=?_) rfl (by kernel_rfl) rfl (by rfl) (λ w'=>?_) ?_;rotate_left
     ·go_simp<;>(try simp only [A_,if_false])<;>with_reducible rfl
     simp only[sA];refine Bh 8 41 (v:=?_) rfl (by kernel_rfl) rfl (by rfl) (λ w' Ah=>?_) ?_;rotate_left
     ·have cx:=ze Ah (ze kS (show W4.drew.cell? _=_ from g0));have GI:=ze Ah (ze kS (show W4.drew.cell? _=_ from g1));have ou:=ze Ah (ze kS (show W4.drew.cell? _=_ from h0));have ox:=ze Ah (ze kS (show W4.drew.cell? _=_ from h1));have JH:=ze Ah (ze kS (show W4.drew.cell? _=_ from e0));have LR:=ze Ah (ze kS (show W4.drew.cell? _=_ from e1));have Ms:=ze Ah (ze kS (show W4.drew.cell? _=_ from e2));have lR:=ze Ah (ze kS (show W4.drew.cell? _=_ from e3));have oe:=ze Ah (ze kS (show W4.drew.cell? _=_ from e4));have og:=ze Ah (ze kS (show W4.drew.cell? _=_ from e5));go_simp<;>(try simp only [A_,if_false])<;>with_reducible rfl
     simp only[sA];refine AN 9 42 (v:=?_) rfl (by kernel_rfl) rfl (by rfl) (λ w'=>?_) ?_;rotate_left
     ·go_simp<;>(try simp only [A_,if_false])<;>with_reducible rfl
     simp only[sA];refine AN 10 43 (v:=?_) rfl (by kernel_rfl) rfl (by rfl) (λ w'=>?_) ?_;rotate_left
     ·go_simp<;>(try simp only [A_,if_false])<;>with_reducible rfl
     simp only[sA];refine Bh 11 44 (v:=?_) rfl (by kernel_rfl) rfl (by rfl) (λ w' Ah=>?_) ?_;rotate_left
     ·have cx:=ze Ah (ze kS (show W4.drew.cell? _=_ from g0));have GI:=ze Ah (ze kS (show W4.drew.cell? _=_ from g1));have ou:=ze Ah (ze kS (show W4.drew.cell? _=_ from h0));have ox:=ze Ah (ze kS (show W4.drew.cell? _=_ from h1));have JH:=ze Ah (ze kS (show W4.drew.cell? _=_ from e0));have LR:=ze Ah (ze kS (show W4.drew.cell? _=_ from e1));have Ms:=ze Ah (ze kS (show W4.drew.cell? _=_ from e2));have lR:=ze Ah (ze kS (show W4.drew.cell? _=_ from e3));have oe:=ze Ah (ze kS (show W4.drew.cell? _=_ from e4));have og:=ze Ah (ze kS (show W4.drew.cell? _=_ from e5));go_simp<;>(try simp only [A_,if_false])<;>with_reducible rfl
     simp only[sA];refine sG 12 45 (λ K Aj=>?_);go_simp;refine(sk.out _ ((zr (λ _=>False) W4).drew.trans kS)).mono ?_;rintro e wT ⟨⟨b2,rfl,FY⟩,kT⟩;obtain rfl:b2=false:=by
      cases b2 with
      | false=>rfl
      | true=>exact absurd (FY.1 rfl) HT.out
     refine Aj _ _ (λ _=>kT) ?_;clear Aj;simp only[sA];refine AN 13 46 (v:=?_) rfl (by kernel_rfl) rfl (by rfl) (λ w'=>?_) ?_;rotate_left
     ·go_simp<;>(try simp only [A_,if_false])<;>with_reducible rfl
     simp only[sA];refine AN 14 47 (v:=?_) rfl (by kernel_rfl) rfl (by rfl) (λ w'=>?_) ?_;rotate_left
     ·go_simp<;>(try simp only [A_,if_false])<;>with_reducible rfl
     simp only[sA];refine dG ?_;have JI:=zh (E4.out.kept.trans (((zr (λ _=>False) W4).drew.trans kS).trans kT));clear E4 kS kT Fq FY Ir sk e0 e1 e2 e3 e4 e5 x0 x1 x2 x3 x4 x5 g0 g1 h0 h1;go_wp2_with fail;go_ret2;exact⟨.no Cx.out,JI.out⟩
  ·as_aux_lemma =>
   obtain rfl:k=m:=(by omega);have hf:Pv ((Aq n es=0/\made n es rk ss)/\Ac w wr):=⟨⟨HF.out,by rw[HN.out];exact Hn.out,HRO.out,λ i s hs=>hS.out.ok i s (by have:=get_lt hs;rw[HM.out]at this;exact this) hs⟩,hS.out.kept⟩;clear hS;go_wp2_with fail;go_ret2;exact⟨.yes hf.out.1,hf.out.2⟩
theorem Ke (n:Int) (A:Option Pn) (L c:Nat) (v:Int) (w:Pm) (_hL:L<=9223372036854775807):Po B_ 252 #[.agg #[i64 n,.slice A L c],i64 v] w λ e w'=>e=.returned (.bool (decide (0<=v/\v<L)))/\Ac w w':=by
 have hk:Ac w (w.alloc (.cells #[i64 n,.slice A L c] 24)):=(zr _ _).alloc _;rcases Pr v 0 with h1 | h1
 ·have hr:decide (0<=v/\v<L)=false:=zf (by omega);rw[hr];clear hr;have h2:¬ 0<=v:=(by omega);go_enter F_,D_;go_wp2_with fail;go_ret;exact⟨rfl,hk⟩
 ·rcases Pr v L with h2 | h2
  ·have hr:decide (0<=v/\v<L)=true:=zt (by omega);rw[hr];clear hr;go_enter F_,D_;go_wp2_with fail;go_ret;exact⟨rfl,hk⟩
  ·have hr:decide (0<=v/\v<L)=false:=zf (by omega);rw[hr];clear hr;have h3:¬ v<L:=(by omega);go_enter F_,D_;go_wp2_with fail;go_ret;exact⟨by simp,hk⟩
def BX (es:List AB) (k:Nat) (x:Int):List AB:=es.set k ((es.getD k (0,0,0)).1,(es.getD k (0,0,0)).2.1,x)
theorem BO (es:List AB) (k:Nat) (x:Int):(BX es k x).length=es.length:=by simp[BX]
theorem GS (es:List AB) (k:Nat) (x:Int) (h:k<es.length):(cellsOf es).set (k*3+2) (u64 x)=cellsOf (BX es k x):=by
 have hd:es=es.take k++es[k]::es.drop (k+1):=(by rw[<- List.drop_eq_getElem_cons h,PE]);have hk:(es.take k).length=k:=by simp;omega
 have hs:BX es k x=es.take k++(es[k].1,es[k].2.1,x)::es.drop (k+1):=by
  unfold BX;rw[Pw,zq h,List.set_eq_take_append_cons_drop,if_pos h];rfl
 rw[hs];conv=>lhs;rw[hd]
 have hl:=Da (es.take k);rw[hk]at hl;rw[Ef,Ef,List.set_append_right _ _ (by omega),hl,Nat.add_sub_cancel_left];rfl
theorem rn (n:Int) (A:Option Pn) (c:Nat) (es:List AB) (e x:Int) (w:Pm) (h:Bj w A es) (hl:es.length<=100000) (hr:Aq n es=0) (he:¬ (0<=e/\e<es.length)) :
  Po B_ 193 #[.agg #[i64 n,.slice A es.length c],i64 e,u64 x] w λ e w'=>e=.returned (.tuple #[.agg #[i64 0,.slice none 0 0],i64 8])/\Ac w w':=by
 have b0:Am ((w.alloc (.cells #[i64 n,.slice A es.length c] 24)).alloc (.cells #[i64 0,.slice none 0 0] 24)) w.heap.size 24 #[i64 n,.slice A es.length c]:=(zv w _ _).alloc _
 have b1:Am ((w.alloc (.cells #[i64 n,.slice A es.length c] 24)).alloc (.cells #[i64 0,.slice none 0 0] 24)) (w.heap.size+1) 24 #[i64 0,.slice none 0 0]:=by
  have h:=zv (w.alloc (.cells #[i64 n,.slice A es.length c] 24)) 24 #[i64 0,.slice none 0 0];rw[Pt]at h;exact h
 have BY:Ac w ((w.alloc (.cells #[i64 n,.slice A es.length c] 24)).alloc (.cells #[i64 0,.slice none 0 0] 24)):=((zr _ _).alloc _).alloc _
 have hE:=zh (h.grew BY)
 have hC:=zh (CH n A c es _ (h.grew BY) hl)
 rw[hr]at hC
 have nP:=zh (λ W=>Ke n A es.length c e W (by omega))
 rw[zf he]at nP
 obtain⟨L,hL⟩:=zn (es.length)
 rw[hL]at b0 b1 BY hC he nP
 rw[hL]
 clear h hr hL hl hE
 obtain⟨c0,c1⟩:=CE b0
 go_enter Ph,Pd
 go_wp2_with fail
 refine hC.out.mono ?_
 rintro e w1 ⟨rfl,k1⟩
 replace b0:=b0.grew k1
 replace c0:=b0.cell 0
 replace c1:=b0.cell 1
 simp at c0 c1
 go_wp2_with fail
 refine(nP.out _).mono ?_
 rintro e w2 ⟨rfl,k2⟩
 replace b1:=(b1.grew k1).grew k2
 have d0:=b1.cell 0
 have d1:=b1.cell 1
 have f0:=b1.frozen 0
 have f1:=b1.frozen 1
 simp at d0 d1
 obtain⟨q0,q1⟩:=CE (((b1.set 0 (i64 0)).set 1 (.slice none 0 0)))
 go_wp2_with fail
 refine zy (v:=.tuple #[.agg #[i64 0,.slice none 0 0],i64 8]) (by simp[results,O_,go_sem,q0,q1]) rfl ⟨rfl,?_⟩
 have hF:Kept (·=w.heap.size+1) w2 ((w2.setCell ⟨w.heap.size+1,0,none⟩ (i64 0)).setCell ⟨w.heap.size+1,1,none⟩ (.slice none 0 0)):=((zr (·=w.heap.size+1) w2).setCell (p:=⟨w.heap.size+1,0,none⟩) (.inl rfl) _).setCell (p:=⟨w.heap.size+1,1,none⟩) (.inl rfl) _
 exact((BY.trans k1).trans k2).then hF (λ i hi h=>by have:i=w.heap.size+1:=h;omega)
theorem rp (n:Int) (A:Option Pn) (c:Nat) (es:List AB) (e:Nat) (x:Int) (w:Pm) (h:Bj w A es) (hl:es.length<=100000) (hr:Aq n es=0) (he:e<es.length) (hx:¬ (1<=x/\x<=4294967296)) :
  Po B_ 193 #[.agg #[i64 n,.slice A es.length c],i64 e,u64 x] w λ e w'=>e=.returned (.tuple #[.agg #[i64 0,.slice none 0 0],i64 2])/\Ac w w':=by
 have b0:Am ((w.alloc (.cells #[i64 n,.slice A es.length c] 24)).alloc (.cells #[i64 0,.slice none 0 0] 24)) w.heap.size 24 #[i64 n,.slice A es.length c]:=(zv w _ _).alloc _
 have b1:Am ((w.alloc (.cells #[i64 n,.slice A es.length c] 24)).alloc (.cells #[i64 0,.slice none 0 0] 24)) (w.heap.size+1) 24 #[i64 0,.slice none 0 0]:=by
  have h:=zv (w.alloc (.cells #[i64 n,.slice A es.length c] 24)) 24 #[i64 0,.slice none 0 0];rw[Pt]at h;exact h
 have BY:Ac w ((w.alloc (.cells #[i64 n,.slice A es.length c] 24)).alloc (.cells #[i64 0,.slice none 0 0] 24)):=((zr _ _).alloc _).alloc _
 have hE:=zh (h.grew BY)
 have hC:=zh (CH n A c es _ (h.grew BY) hl)
 rw[hr]at hC
 have nP:=zh (λ W=>Ke n A es.length c (e:Int) W (by omega))
 rw[zt (show 0<=(e:Int)/\(e:Int)<(es.length:Int) by omega)]at nP
 have fL:=zh (λ W=>GY x W)
 rw[zf hx]at fL
 obtain⟨L,hL⟩:=zn (es.length)
 rw[hL]at b0 b1 BY hC he nP
 rw[hL]
 clear h hr hL hl hE hx
 obtain⟨c0,c1⟩:=CE b0
 go_enter Ph,Pd
 go_wp2_with fail
 refine hC.out.mono ?_
 rintro e w1 ⟨rfl,k1⟩
 replace b0:=b0.grew k1
 replace c0:=b0.cell 0
 replace c1:=b0.cell 1
 simp at c0 c1
 go_wp2_with fail
 refine(nP.out _).mono ?_
 rintro e w2 ⟨rfl,k2⟩
 go_wp2_with fail
 refine(fL.out _).mono ?_
 rintro e w9 ⟨rfl,rfl⟩
 replace b1:=(b1.grew k1).grew k2
 have d0:=b1.cell 0
 have d1:=b1.cell 1
 have f0:=b1.frozen 0
 have f1:=b1.frozen 1
 simp at d0 d1
 obtain⟨q0,q1⟩:=CE (((b1.set 0 (i64 0)).set 1 (.slice none 0 0)))
 go_wp2_with fail
 refine zy (v:=.tuple #[.agg #[i64 0,.slice none 0 0],i64 2]) (by simp[results,O_,go_sem,q0,q1]) rfl ⟨rfl,?_⟩
 have hF:Kept (·=w.heap.size+1) w2 ((w2.setCell ⟨w.heap.size+1,0,none⟩ (i64 0)).setCell ⟨w.heap.size+1,1,none⟩ (.slice none 0 0)):=((zr (·=w.heap.size+1) w2).setCell (p:=⟨w.heap.size+1,0,none⟩) (.inl rfl) _).setCell (p:=⟨w.heap.size+1,1,none⟩) (.inl rfl) _
 exact((BY.trans k1).trans k2).then hF (λ i hi h=>by have:i=w.heap.size+1:=h;omega)
theorem rq (n:Int) (A:Option Pn) (c:Nat) (es:List AB) (e:Nat) (x:Int) (w:Pm) (h:Bj w A es) (hl:es.length<=100000) (hr:Aq n es=0) (he:e<es.length) (hx:1<=x/\x<=4294967296) :
  Po B_ 193 #[.agg #[i64 n,.slice A es.length c],i64 e,u64 x] w λ r w'=>∃ v,r=.returned (.tuple #[.agg #[i64 n,v],i64 0])/\Bc w' w.heap.size v (BX es e x)/\Ac w w':=by
 have b0:Am ((w.alloc (.cells #[i64 n,.slice A es.length c] 24)).alloc (.cells #[i64 0,.slice none 0 0] 24)) w.heap.size 24 #[i64 n,.slice A es.length c]:=(zv w _ _).alloc _
 have b1:Am ((w.alloc (.cells #[i64 n,.slice A es.length c] 24)).alloc (.cells #[i64 0,.slice none 0 0] 24)) (w.heap.size+1) 24 #[i64 0,.slice none 0 0]:=by
  have h:=zv (w.alloc (.cells #[i64 n,.slice A es.length c] 24)) 24 #[i64 0,.slice none 0 0];rw[Pt]at h;exact h
 have BY:Ac w ((w.alloc (.cells #[i64 n,.slice A es.length c] 24)).alloc (.cells #[i64 0,.slice none 0 0] 24)):=((zr _ _).alloc _).alloc _
 have hE:=zh (h.grew BY)
 have hC:=zh (CH n A c es _ (h.grew BY) hl)
 rw[hr]at hC
 have nP:=zh (λ W=>Ke n A es.length c (e:Int) W (by omega))
 rw[zt (show 0<=(e:Int)/\(e:Int)<(es.length:Int) by omega)]at nP
 have fL:=zh (λ W=>GY x W)
 rw[zt hx]at fL
 have hQ:=zh (λ W h=>C4 n A c es W h hl)
 obtain⟨L,hL⟩:=zn (es.length)
 have HL:=zh hL
 have JH:=zh he
 rw[hL]at b0 b1 BY hC he hE nP hQ
 rw[hL]
 have hl9:L<=100000:=by omega
 clear h hr hL hx
 obtain⟨c0,c1⟩:=CE b0
 go_enter Ph,Pd
 go_wp2_with fail
 refine hC.out.mono ?_
 rintro e w1 ⟨rfl,k1⟩
 replace b0:=b0.grew k1
 replace b1:=b1.grew k1
 replace c0:=b0.cell 0
 replace c1:=b0.cell 1
 simp at c0 c1
 go_wp2_with fail
 refine(nP.out _).mono ?_
 rintro e w2 ⟨rfl,k2⟩
 go_wp2_with fail
 refine(fL.out _).mono ?_
 rintro e w9 ⟨rfl,rfl⟩
 replace b0:=b0.grew k2
 replace b1:=b1.grew k2
 replace c0:=b0.cell 0
 replace c1:=b0.cell 1
 simp at c0 c1
 have hE2:=zh ((hE.out.grew k1).grew k2)
 go_wp2_with fail
 refine(hQ.out _ hE2.out).mono ?_
 rintro e w3 ⟨v,rfl,AV,k3⟩
 obtain⟨g,cc,rfl⟩:=KM AV (by have:=JH.out;omega)
 rw[HL.out]at AV ⊢
 have CR:=k1.size
 have F9:=k2.size
 have hs3:=k3.size
 simp at CR
 have hg:=AV.lt g rfl
 have hK3:=((BY.trans k1).trans k2).trans k3
 have HO:Pv (Pu (w3.alloc (.cells #[i64 n,.slice (some ⟨g,0,none⟩) L cc] 24)) w2.heap.size 65 3 (.slice (some ⟨g,0,none⟩) L cc) L (cellsOf es)):=by
  have h:=Ac.own ((zr (λ _=>False) w3).alloc (.cells #[i64 n,.slice (some ⟨g,0,none⟩) L cc] 24)) AV;unfold Bc at h;rw[HL.out]at h;exact h
 have HO3:Pv (Pu w3 w2.heap.size 65 3 (.slice (some ⟨g,0,none⟩) L cc) L (cellsOf es)):=by
  have h:=AV;unfold Bc at h;rw[HL.out]at h;exact h
 have x2:(w3.alloc (.cells #[i64 n,.slice (some ⟨g,0,none⟩) L cc] 24)).cell? ⟨g,e*3+2,none⟩=some (u64 ((es.getD e (0,0,0)).2.2)):=by
  have h:=World.ownsRow.cellAt HO.out (e*3+2) (by omega);rw[h,C0 es e 2 _ (zq JH.out) (by omega),Pw,zq JH.out];rfl
 have y2:=World.ownsRow.frozenAt HO.out (e*3+2)
 have hng:¬ g=w3.heap.size:=by omega
 have hng2:¬ w3.heap.size=g:=by omega
 have EI:¬ w.heap.size+1=g:=by omega
 have Hv:¬ g=w.heap.size+1:=by omega
 have fv:=((b1.grew k3).far (p:=⟨g,e*3+2,none⟩) EI (u64 x)).alloc (.cells #[i64 n,.slice (some ⟨g,0,none⟩) L cc] 24)
 have d0:=fv.cell 0
 have d1:=fv.cell 1
 have f0:=fv.frozen 0
 have f1:=fv.frozen 1
 simp only[List.getElem?_toArray,PC,PD]at d0 d1
 obtain⟨q0,q1⟩:=CE (((fv.set 0 (i64 n)).set 1 (.slice (some ⟨g,0,none⟩) L cc)))
 have bX:=zv w3 24 #[i64 n,.slice (some ⟨g,0,none⟩) L cc]
 obtain⟨g0,g1⟩:=CE bX
 clear AV hE hE2 hQ bX
 go_wp2_with fail
 refine zy (v:=.tuple #[.agg #[i64 n,.slice (some ⟨g,0,none⟩) L cc],i64 0]) (by simp[results,O_,go_sem,q0,q1]) rfl ⟨_,rfl,?_,?_⟩
 ·have h1:=(World.ownsRow.stored HO3.out (e*3+2) (u64 x)).1;rw[GS es e x JH.out]at h1;have h2:Bc ((w3.setCell ⟨g,e*3+2,none⟩ (u64 x)).alloc (.cells #[i64 n,.slice (some ⟨g,0,none⟩) L cc] 24)) w2.heap.size (.slice (some ⟨g,0,none⟩) L cc) (BX es e x):=by
   unfold Bc
   rw[BO,HL.out]
   exact Ac.own ((zr (λ _=>False) _).alloc _) h1
  refine Az (Kept.own (F:=(·=w.heap.size+1)) (((zr (·=w.heap.size+1) _).setCell (p:=⟨w.heap.size+1,0,none⟩) (.inl rfl) _).setCell (p:=⟨w.heap.size+1,1,none⟩) (.inl rfl) _) h2 (λ k hk h=>?_)) (by omega);have h3:k=w.heap.size+1:=h;have h4:g=k:=Option.some.inj (show some g=some k from hk);omega
 ·exact(((hK3.setCell (p:=⟨g,e*3+2,none⟩) (.inr (by show w.heap.size<=g;omega)) _).alloc _).setCell (p:=⟨w.heap.size+1,0,none⟩) (.inr (by show w.heap.size<=w.heap.size+1;omega)) _).setCell (p:=⟨w.heap.size+1,1,none⟩) (.inr (by show w.heap.size<=w.heap.size+1;omega)) _
end Go.Proofs.YtepelooebggliaaGreatDoor
