/- Walks of functions that the law reaches, and plain laws, part 6 of 20: lemmas for the proof in the last text; no condition. Shortened by program. -/
import Derived.Laws.IdiomStrings
import Derived.Laws.BytesArg
import Derived.Lib.Bytealg
import Derived.Great.BuildSlice
import Derived.Laws.RangeAny
import Derived.LoopTactic
import Derived.WalkMore
import Derived.Test.YtepelooebggliaaGreatDoorOv0
import Derived.Test.YtepelooebggliaaGreatDoorOv2
import Derived.Test.YtepelooebggliaaGreatDoorOv3
open Go.Proofs.Tryz renaming prog->A_,underlying97->B_,results117->C_,results170->D_,ntmps169->E_,ntmps170->F_,ntmps92->G_,func169->H_,func170->I_,func92->J_,underlying40->K_,underlying5->L_,underlying9->M_,underlying22->N_
open Go renaming World->O_,Value->Pa,Calls->Pb,Addr->Pc
open Go.Value renaming slice->Pd,oneCell'->Pe
open List renaming length_append->Pf,take_of_length_le->Pg,mem_singleton->Ph,length->Pj,getElem?_cons_succ->Pk,take_add_one->Pm,getElem?_map->Pn,flatMap_cons->Po,length_take->Pp,mem_append->Pq,getElem?_eq_some_iff->Pr,all_eq_true->Ps,length_cons->Pt,length_map->Pu,mem_range->Pv
open Go.World renaming news_of_block->Pw,size_alloc->Px,heap->Py,iterPos->Pz
open Go.IntKind renaming u64->PA,i64->PB,wrap_u8->PC,u8->PD
open Go.World.ownsRow renaming cellAt->PE,frozenAt->PF,stored->PG,lt->PH
open Option.some renaming inj->PI
open Go.RowKit renaming Hid->PJ
open Int renaming tmod_eq_emod_of_nonneg->PK
open Nat renaming le_succ_of_le->PL,le_trans->PM,zero_le->PN
open Go.Lib renaming indexByte->PO
open Go.IntWalk renaming i64_in->PQ
open UInt8 renaming ofNat->PR
open Array renaming getElem?_eq_some_iff->PS
set_option maxHeartbeats 16000000
set_option maxRecDepth 100000
set_option linter.unusedVariables false
set_option linter.unusedSimpArgs false
namespace Go.Proofs.YtepelooebggliaaGreatDoor
open Go.RowKit
def EJ (w:O_) (A:Option Pc) (zs:List Int):Prop:=∀ (i:Nat) (x:Int),zs[i]? = some x->∃ b off,A=some ⟨b,off,none⟩/\b<w.heap.size/\w.cell? ⟨b,off+i,none⟩=some (u64 x)
theorem EJ.kept {F:Nat->Prop} {w w':O_} {A:Option Pc} {l:List Int} (h:EJ w A l) (hK:Kept F w w') (hF:∀ a,A=some a->¬ F a.block):EJ w' A l:=λ i x hx=>by
 obtain⟨b,off,hA,hb,hc⟩:=h i x hx;exact⟨b,off,hA,Nat.lt_of_lt_of_le hb hK.size,hK.cell hc (show ¬ F b from hF _ hA)⟩
theorem EJ.grew {w w':O_} {A:Option Pc} {l:List Int} (h:EJ w A l) (hK:Af w w'):EJ w' A l:=h.kept hK λ _ _ h=>h
theorem EJ.blk {w:O_} {g:Nat} {l:List Int} (h:Ao w g 29 (l.map u64).toArray):EJ w (some ⟨g,0,none⟩) l:=λ i x hx=>by
 refine⟨g,0,rfl,h.lt,?_⟩;rw[Nat.zero_add,h.cell i];simp[hx]
theorem az (A A2:Option Pc) (c c2:Nat) (zs:List Int) (w:O_) (h:EJ w A zs) (h2:EJ w A2 zs) (hl:zs.length<=100000) :
  Pb A_ 18 #[.slice A zs.length c,.slice A2 zs.length c2] w λ e w'=>e=.returned (.bool true)/\Af w w':=by
 obtain⟨L,hL⟩:=zn (zs.length)
 have H0:=DU h h2 hL
 rw[hL]at hl ⊢
 clear h h2 hL
 go_enter Tryz.func18,Tryz.ntmps18
 go_wp2_with fail
 go_loopw [5] (λ i wr=>∃ k:Nat,k<=L/\i=.int .i64 k/\PJ (Af w wr)) (λ i _=>L-(intOf i).toNat)
 case atStart=>exact⟨0,by omega,rfl,zh (zr _ _)⟩
 case round =>
  obtain⟨k,hk,rfl,hg⟩:=hrel;by_cases AI:k<L
  ·have k0:(0:Int)<=(k:Int):=(by omega);have k1:(k:Int)<(L:Int):=(by omega);obtain⟨x,hx⟩:=zx (l:=zs) (i:=k) (by rw[H0.out.2.2];exact AI);obtain⟨b,off,hA,hb,hc⟩:=(H0.out.1.grew hg.out) k x hx;obtain⟨b2,off2,bl,Gq,MV⟩:=(H0.out.2.1.grew hg.out) k x hx;subst hA;subst bl;have HC0:PJ (∀ w',Af wr.drew w'->w'.cell? ⟨b,off+k,none⟩=some (u64 x)):=λ w' k=>k.cell hc;have I7:PJ (∀ w',Af wr.drew w'->w'.cell? ⟨b2,off2+k,none⟩=some (u64 x)):=λ w' k=>k.cell MV;clear hx hc MV hb Gq;go_upto_region 6 with fail;refine rG [] (λ _=>False) ?_;refine pG 0 17 ?_;refine pG 1 18 ?_;refine pG 2 19 ?_;refine tG 3 20 (y:=λ w' Aj=>by have q0:=HC0.out w' Aj;have q1:=I7.out w' Aj;go_simp<;>with_reducible rfl) (h:=?_);refine pG 4 21 ?_;refine pG 5 22 ?_;refine pG 6 23 ?_;refine tG 7 24 (y:=λ w' Aj=>by have q0:=HC0.out w' Aj;have q1:=I7.out w' Aj;go_simp<;>with_reducible rfl) (h:=?_);refine pG 8 25 ?_;refine dG ?_;have fm:PJ (Af w wr.drew):=hg.out.drew;go_wp2_with fail;go_roundw
   case rel=>exact⟨k+1,by omega,by go_num,fm⟩
   case measure=>simp[intOf];omega
  ·obtain rfl:k=L:=(by omega);go_wp2_with fail;go_ret;exact⟨rfl,hg.out⟩
theorem dY (A:Option Pc) (c:Nat) (zs:List Int) (x:Int) (w:O_) (h:RowI w A zs) (hl:zs.length<=100000) :
  Pb A_ 37 #[.slice A zs.length c,i64 x] w λ e w'=>e=.returned (.bool (decide (x∈zs)))/\w=w':=by
 obtain⟨b,hb⟩:=zn (decide (x∈zs))
 obtain⟨L,hL⟩:=zn (zs.length)
 have H0:=DU h hb hL
 rw[hL]at hl
 rw[hL,hb]
 clear h hb hL
 go_enter Tryz.func37,Tryz.ntmps37
 go_wp2_with fail
 go_loop [5] (λ i=>∃ k:Nat,k<=L/\i=.int .i64 k/\PJ (x∉zs.take k)) (λ i=>L-(intOf i).toNat)
 case atStart=>exact⟨0,by omega,rfl,zh (by simp)⟩
 case round =>
  obtain⟨k,hk,rfl,hn⟩:=hrel;by_cases AI:k<L
  ·have k0:(0:Int)<=(k:Int):=(by omega);have k1:(k:Int)<(L:Int):=(by omega);obtain⟨y,hy⟩:=zx (l:=zs) (i:=k) (by rw[H0.out.2.2];exact AI);obtain⟨b1,off,hA,Fv,hc⟩:=H0.out.1 k y hy;subst hA;by_cases NS:y=x
   ·subst NS;obtain rfl:b=true:=by rw[<- H0.out.2.1];exact zt (zm hy)
    clear hy Fv;go_wp2_with fail;go_ret;exact⟨rfl,rfl⟩
   ·have Bn:(y==x)=false:=(by simpa using NS);have Hs:PJ (x∉zs.take (k+1)):=by
     rw[show (PJ (x∉zs.take (k+1)))=PJ (x∉zs.take k++[y]) by rw[Pm,hy];rfl]
     exact zh (by simp;exact⟨hn.out,λ e=>NS e.symm⟩)
    clear hy Fv;go_wp2_with fail;go_round
    case rel=>exact⟨k+1,by omega,by go_num,Hs⟩
    case measure=>simp[intOf];omega
  ·obtain rfl:k=L:=(by omega);obtain rfl:b=false:=by
    rw[<- H0.out.2.1]
    have:=hn.out
    rw[Pg (by rw[H0.out.2.2];exact zl _)]at this
    exact zf this
   go_wp2_with fail;go_ret;exact⟨rfl,rfl⟩
def Gz (zs:List Int):Bool:=(List.range zs.length).all λ i=>decide ((i:Int)∈zs)
theorem FX (A:Option Pc) (c:Nat) (zs:List Int) (w:O_) (h:RowI w A zs) (hl:zs.length<=100000) :
  Pb A_ 29 #[.slice A zs.length c] w λ e w'=>e=.returned (.bool (Gz zs))/\w=w':=by
 obtain⟨b,hb⟩:=zn (Gz zs)
 have HH:=zh (λ x=>dY A c zs x w h hl)
 obtain⟨L,hL⟩:=zn (zs.length)
 have H0:=BO hb hL
 rw[hL]at HH hl ⊢
 rw[hb]
 clear h hb hL
 go_enter Tryz.func29,Tryz.ntmps29
 go_wp2_with fail
 go_loop [3] (λ i=>∃ k:Nat,k<=L/\i=.int .i64 k/\PJ (∀ i:Nat,i<k->(i:Int)∈zs)) (λ i=>L-(intOf i).toNat)
 case atStart=>exact⟨0,by omega,rfl,zh (by intro i h;omega)⟩
 case round =>
  obtain⟨k,hk,rfl,hn⟩:=hrel;by_cases AI:k<L
  ·have k0:(0:Int)<=(k:Int):=(by omega);have k1:(k:Int)<(L:Int):=(by omega);have hm:=HH.out (k:Int);by_cases NS:(k:Int)∈zs
   ·rw[zt NS]at hm;have HM:=zh hm;have Hs:PJ (∀ i:Nat,i<k+1->(i:Int)∈zs):=zh (λ i hi=>by
     by_cases e:i=k
     ·subst e;exact NS
     ·exact hn.out i (by omega))
    clear NS hm;go_wp2_with fail;refine HM.out.mono ?_;rintro e w9 ⟨rfl,rfl⟩;clear HM;go_wp2_with fail;go_round
    case rel=>exact⟨k+1,by omega,by go_num,Hs⟩
    case measure=>simp[intOf];omega
   ·rw[zf NS]at hm;have HM:=zh hm;obtain rfl:b=false:=by
     rw[<- H0.out.1]
     unfold Gz
     rw[H0.out.2]
     exact Bool.eq_false_iff.2 λ h=>NS (of_decide_eq_true (Ps.1 h k (Pv.2 AI)))
    clear NS hm;go_wp2_with fail;refine HM.out.mono ?_;rintro e w9 ⟨rfl,rfl⟩;clear HM;go_wp2_with fail;go_ret;exact⟨rfl,rfl⟩
  ·obtain rfl:k=L:=(by omega);obtain rfl:b=true:=by
    rw[<- H0.out.1]
    unfold Gz
    rw[H0.out.2]
    exact Ps.2 λ i hi=>zt (hn.out i (Pv.1 hi))
   go_wp2_with fail;go_ret;exact⟨rfl,rfl⟩
theorem Kept.new (F:Nat->Prop) (w:O_) (o:Obj):Kept F w (w.alloc o):=(zr _ _).alloc o
theorem Kept.newD (F:Nat->Prop) (w:O_) (o:Obj):Kept F w.drew (w.alloc o).drew:=⟨(DL F w o).os,(DL F w o).tape,(DL F w o).output,(DL F w o).size,(DL F w o).block⟩
theorem By (a b:List UInt8):bs a++bs b=bs (a++b):=by
 apply ByteArray.ext;simp[bs]
theorem mP {a b:ByteArray} (h:a.size+b.size<=1000000):¬ a.size+b.size>9223372036854775807/\¬ 9223372036854775807<a.size+b.size:=⟨by omega,by omega⟩
theorem Ez {a b:List UInt8} (h:a.length+b.length<=1000000):¬ (bs a).size+(bs b).size>9223372036854775807/\¬ 9223372036854775807<(bs a).size+(bs b).size:=mP (by rw[Bb,Bb];exact h)
theorem EL {n:Nat} (h:n<18446744073709551616):(dec n).length<=20:=DD (k:=19) (by omega)
theorem JU (W:O_) (g:Nat) (c:UInt8) (h:Ao W g 5 #[.int .u8 (c.toNat:Int)]):(convert 97 9 (.slice (some ⟨g,0,none⟩) 1 1)).run A_ W=.ok (str [c]) W :=
 run_convert_bytes_back (P:=A_) W 97 9 5 ⟨g,0,none⟩ 1 [c] B_ L_ M_ (λ j hj=>by
  have hj:j<1:=(by simpa using hj);obtain rfl:j=0:=(by omega);have e:(⟨g,0,none⟩:Pc).add 0=⟨g,0,none⟩:=by unfold Addr.add;rfl
  rw[e,h.cell 0];rfl)
theorem KC (n:Nat) (hn:n<10) (w:O_):Pb A_ 12 #[u64 n] w λ e w'=>e=.returned (str (dec n))/\Af w w':=by
 have hd:=Dw hn;obtain⟨c,hc⟩:=zn (PR (48+n));rw[hc]at hd;have nL:dec n=[c]:=(by rw[dec_lt hn,hc]);rw[nL];have e1:(48:Int)+(n:Int)=(c.toNat:Int):=(by omega);have l1:(n:Int)<10:=(by omega);have u1:PA.wrap ((c.toNat:Nat):Int)=(c.toNat:Int):=wrapN _ (by omega);have u2:PD.wrap ((c.toNat:Nat):Int)=(c.toNat:Int):=by rw[PC];omega
 have hcv:=JU (w.alloc (.cells #[.int .u8 (c.toNat:Int)] 5)) w.heap.size c (zv _ _ _);clear hd nL hc hn;go_enter Tryz.func12,Tryz.ntmps12;go_wp2_with fail;go_ret;exact⟨rfl,(zr _ _).alloc _⟩
theorem LG (n q:Nat) (hn:¬ n<10) (Hs:n<18446744073709551616) (hq:n/10=q) (w:O_) (hI:∀ W,Pb A_ 12 #[u64 q] W λ e w'=>e=.returned (str (dec q))/\Af W w') :
  Pb A_ 12 #[u64 n] w λ e w'=>e=.returned (str (dec n))/\Af w w':=by
 have HI:=zh hI
 clear hI
 obtain⟨r,hr⟩:=zn (n%10)
 have hr10:r<10:=by omega
 have hd:=Dw hr10
 obtain⟨c,hc⟩:=zn (PR (48+r))
 rw[hc]at hd
 have nL:dec n=dec q++[c]:=by rw[Iq hn,hq,hr,hc]
 rw[nL]
 have e1:(48:Int)+(r:Int)=(c.toNat:Int):=by omega
 have e2:(n:Int)/10=(q:Int):=by omega
 have e3:(n:Int)%10=(r:Int):=by omega
 have e4:(n:Int).tmod 10=(r:Int):=by rw[PK (by omega)];exact e3
 obtain⟨z1,z2⟩:=Ez (a:=dec q) (b:=[c]) (by have:=EL (n:=q) (by omega);simp;omega)
 have z3:bs (dec q)++bs [c]=bs (dec q++[c]):=By _ _
 have l1:¬ (n:Int)<10:=by omega
 have l2:(n:Int)<18446744073709551616:=by omega
 have u1:PA.wrap ((c.toNat:Nat):Int)=(c.toNat:Int):=wrapN _ (by omega)
 have u2:PD.wrap ((c.toNat:Nat):Int)=(c.toNat:Int):=by rw[PC];omega
 have u3:PA.wrap (q:Int)=(q:Int):=wrapN _ (by omega)
 have u4:PA.wrap (r:Int)=(r:Int):=wrapN _ (by omega)
 clear hd nL hc hn hr hq Hs hr10
 go_enter Tryz.func12,Tryz.ntmps12
 go_upto_region 3 with fail
 refine rG [] (λ _=>False) ?_
 refine pG 0 10 ?_
 refine pG 1 11 ?_
 refine pG 3 13 ?_
 refine pG 4 14 ?_
 refine pG 5 15 ?_
 refine pG 6 16 ?_
 refine AO 2 12 7 17 rfl rfl (by kernel_rfl) rfl rfl (by rfl) (by rfl) (λ K Al=>?_) (λ K Al=>?_)
 ·skip;go_simp;refine(HI.out _).mono ?_;rintro e y1 ⟨rfl,k1⟩;refine Al (str (dec q)) _ (λ _=>k1) ?_;clear Al;simp only[sA];refine sG 7 17 (λ K Al=>?_);go_simp;obtain⟨y2,CN⟩:=zn ((World.alloc y1 (.cells #[.int .u8 (c.toNat:Int)] 5)));have k2:Af y1 y2:=by rw[<- CN];exact DL _ _ _
  have bv:Ao y2 (Py y1).size 5 #[.int .u8 (c.toNat:Int)]:=by rw[<- CN];exact zv _ _ _
  rw[CN];refine Al (.slice (some ⟨(Py y1).size,0,none⟩) 1 1) _ (λ _=>k2) ?_;clear Al;simp only[sA];refine tG 8 18 (y:=λ w' Aj=>by have hx:=JU w' _ c (bv.grew Aj);go_simp<;>with_reducible rfl) (h:=?_);refine pG 9 19 ?_;refine pG 10 2 ?_;refine dG ?_;have HF:PJ (Af w y2):=(((zr _ _).drew).trans k1).trans k2;clear k1 k2 bv;go_wp2_with fail;go_ret;exact⟨rfl,HF.out⟩
 ·skip;go_simp;obtain⟨y1,Br⟩:=zn ((World.alloc w (.cells #[.int .u8 (c.toNat:Int)] 5)).drew);have k1:Af w.drew y1:=by rw[<- Br];exact Kept.newD _ _ _
  have bv:Ao y1 (Py w).size 5 #[.int .u8 (c.toNat:Int)]:=by rw[<- Br];exact zv _ _ _
  rw[Br];refine Al (.slice (some ⟨(Py w).size,0,none⟩) 1 1) _ (λ _=>k1) ?_;clear Al;simp only[sA];refine tG 8 18 (y:=λ w' Aj=>by have hx:=JU w' _ c (bv.grew Aj);go_simp<;>with_reducible rfl) (h:=?_);refine sG 2 12 (λ K Al=>?_);go_simp;refine(HI.out _).mono ?_;rintro e y2 ⟨rfl,k2⟩;refine Al (str (dec q)) _ (λ _=>k2) ?_;clear Al;simp only[sA];refine pG 9 19 ?_;refine pG 10 2 ?_;refine dG ?_;have HF:PJ (Af w y2):=(((zr _ _).drew).trans k1).trans k2;clear k1 k2 bv;go_wp2_with fail;go_ret;exact⟨rfl,HF.out⟩
theorem Dk:∀ (n:Nat),n<18446744073709551616->∀ w:O_,Pb A_ 12 #[u64 n] w λ e w'=>e=.returned (str (dec n))/\Af w w':=by
 intro n;induction n using Nat.strongRecOn with
 | _ n ih =>
  intro hn w;by_cases h:n<10
  ·exact KC n h w
  ·exact LG n (n/10) h hn rfl w (λ W=>ih (n/10) (by omega) (by omega) W)
theorem Ev (n:Nat) (hn:n<9223372036854775808) (w:O_):Pb A_ 47 #[i64 n] w λ e w'=>e=.returned (str (dec n))/\Af w w':=by
 have HP:=zh (λ W=>Dk n (by omega) W);have u3:PA.wrap (n:Int)=(n:Int):=wrapN _ (by omega);clear hn;go_enter Tryz.func47,Tryz.ntmps47;go_wp2_with fail;refine(HP.out _).mono ?_;rintro e w1 ⟨rfl,k⟩;go_wp2_with fail;go_ret;exact⟨rfl,k⟩
theorem dQ (n:Nat) (hn:n<9223372036854775808) (w:O_):Pb A_ 11 #[i64 n] w λ e w'=>e=.returned (str (dec n))/\Af w w':=by
 have HP:=zh (λ W=>Dk n (by omega) W);have u3:PA.wrap (n:Int)=(n:Int):=wrapN _ (by omega);clear hn;go_enter Tryz.func11,Tryz.ntmps11;go_wp2_with fail;refine(HP.out _).mono ?_;rintro e w1 ⟨rfl,k⟩;go_wp2_with fail;go_ret;exact⟨rfl,k⟩
theorem I3 (c:Int) (b:Bool) (h:decide (33<=c/\c<=126)=b) (w:O_):Pb A_ 82 #[.int .u8 c] w λ e w'=>e=.returned (.bool b)/\w=w':=by
 by_cases h1:33<=c
 ·have d1:decide (33<=c)=true:=zt h1;have d2:decide (c<=126)=b:=by rw[<- h];congr 1;simp[h1]
  clear h;cases b;all_goals
   go_enter Tryz.func82,Tryz.ntmps82
   go_wp2_with fail
   go_ret
   exact⟨rfl,rfl⟩
 ·have d1:decide (33<=c)=false:=zf h1;obtain rfl:b=false:=by rw[<- h];exact zf (λ h=>h1 h.1)
  clear h;go_enter Tryz.func82,Tryz.ntmps82;go_wp2_with fail;go_ret;exact⟨rfl,rfl⟩
theorem Nn (l:List UInt8) (Be:CX l) (hl:l.length<=100000) (w:O_):Pb A_ 48 #[str l] w λ e w'=>e=.returned (.bool true)/\w=w':=by
 obtain⟨L,hL⟩:=zn (l.length);have Da:(bs l).size=L:=(by rw[Bb,hL]);have fb:0<L:=by rw[<- hL];exact List.length_pos_iff.2 Be.1
 have H0:=BO Be.2 hL;rw[hL]at hl;clear Be hL;go_enter Tryz.func48,Tryz.ntmps48;go_wp2_with fail;go_loop [3] (λ i=>∃ k:Nat,k<=L/\i=.int .i64 k) (λ i=>L-(intOf i).toNat)
 case atStart=>exact⟨0,by omega,rfl⟩
 case round =>
  obtain⟨k,hk,rfl⟩:=hrel;by_cases AI:k<L
  ·have k0:(0:Int)<=(k:Int):=(by omega);have k1:(k:Int)<(L:Int):=(by omega);obtain⟨c,hc⟩:=zx (l:=l) (i:=k) (by rw[H0.out.2];exact AI);have LZ:=Cr l k hc;have eM:=zh (λ W=>I3 (c.toNat:Int) true (Ea (H0.out.1 c (zm hc))).1 W);clear hc;go_wp2_with fail;refine(eM.out _).mono ?_;rintro e w9 ⟨rfl,rfl⟩;clear eM;go_wp2_with fail;go_round
   case rel=>exact⟨k+1,by omega,by go_num⟩
   case measure=>simp[intOf];omega
  ·obtain rfl:k=L:=(by omega);go_wp2_with fail;go_ret;exact⟨by simp<;>omega,rfl⟩
theorem dJ (ws:List (List UInt8)) (k:Nat) (hk:k<ws.length):(Az (ws.take (k+1))).length<=(Az ws).length:=by
 obtain⟨q,h⟩:=NC (zq hk);have:=h.le;unfold EE at this;exact this
theorem aw (A:Option Pc) (c:Nat) (ws:List (List UInt8)) (w:O_) (h:B8 w A ws) (Be:∀ x∈ws,CX x) (hn:ws.length<=16384) (hlen:(Az ws).length<=65536) :
  Pb A_ 28 #[.slice A ws.length c] w λ e w'=>e=.returned (.tuple #[str (Az ws),i64 0])/\w=w':=by
 obtain⟨L,hL⟩:=zn (ws.length)
 have H0:=Em h Be hL hlen
 rw[hL]at hn ⊢
 clear h Be hL hlen
 go_enter Tryz.func28,Tryz.ntmps28
 go_wp2_with fail
 go_loop [4] (λ i=>∃ k:Nat,k<=L/\i=.int .i64 k) (λ i=>L-(intOf i).toNat)
 case atStart=>exact⟨0,by omega,rfl⟩
 case round =>
  obtain⟨k,hk,rfl⟩:=hrel;by_cases AI:k<L
  ·have k0:(0:Int)<=(k:Int):=(by omega);have k1:(k:Int)<(L:Int):=(by omega);obtain⟨x,hx⟩:=zx (l:=ws) (i:=k) (by rw[H0.out.2.2.1];exact AI);obtain⟨b,off,hA,hb,hc⟩:=H0.out.1 k x hx;subst hA;have eM:=zh (λ W=>Nn x (H0.out.2.1 x (zm hx)) (by
    obtain⟨q,hq⟩:=NC hx
    have h1:=congrArg Pj hq.cut
    have h2:=H0.out.2.2.2
    simp at h1
    omega) W)
   clear hx hb;go_wp2_with fail;refine(eM.out _).mono ?_;rintro e w9 ⟨rfl,rfl⟩;clear eM;go_wp2_with fail;go_round
   case rel=>exact⟨k+1,by omega,by go_num⟩
   case measure=>simp[intOf];omega
  ·obtain rfl:k=L:=(by omega);go_wp2_with fail;go_loop [5,6] (λ s i=>∃ j:Nat,j<=k/\i=.int .i64 j/\s=str (Az (ws.take j))) (λ _ i=>k-(intOf i).toNat)
   case atStart=>exact⟨0,by omega,rfl,rfl⟩
   case round =>
    obtain⟨j,hj,rfl,rfl⟩:=hrel;by_cases AI:j<k
    ·have k0:(0:Int)<=(j:Int):=(by omega);have k1:(j:Int)<(k:Int):=(by omega);obtain⟨x,hx⟩:=zx (l:=ws) (i:=j) (by rw[H0.out.2.2.1];exact AI);obtain⟨b,off,hA,hb,hc⟩:=H0.out.1 j x hx;subst hA;obtain⟨sep,_,Gf,hs3⟩:=IY hx;have hm:=dJ ws j (by rw[H0.out.2.2.1];exact AI);have Lx:=H0.out.2.2.2;obtain⟨s0,Iz⟩:=zn (Az (ws.take j));rcases hs3 with ⟨hj0,yF⟩ | ⟨hj0,yF⟩
     ·subst yF;have l1:¬ (0:Int)<(j:Int):=(by omega);clear hj0;rw[Iz]at Gf ⊢;have ha:bs s0++bs x=bs (s0++x):=By _ _;obtain⟨z1,z2⟩:=Ez (a:=s0) (b:=x) (by have:=congrArg Pj Gf;simp at this;omega);have hz:(bs (s0++x)).size<=65536:=by rw[Bb,show s0++x=Az (ws.take (j+1)) by rw[Gf];simp];omega
      have B4:((bs (s0++x)).size:Int)<=65536:=(by omega);have HS:=zh Gf;clear Gf hx hm Lx Iz hb;go_wp2_with fail;go_round
      case rel=>exact⟨j+1,by omega,by go_num,by rw[HS.out];simp⟩
      case measure=>simp[intOf];omega
     ·subst yF;have l1:(0:Int)<(j:Int):=(by omega);rw[Iz]at Gf ⊢;have ha0:bs s0++⟨#[32]⟩=bs (s0++[32]):=By _ [32];have ha:bs (s0++[32])++bs x=bs (s0++32::x):=by rw[By];simp
      obtain⟨z1,z2⟩:=Ez (a:=s0++[32]) (b:=x) (by have:=congrArg Pj Gf;simp at this;simp;omega);obtain⟨z3,z4⟩:=Ez (a:=s0) (b:=[32]) (by have:=congrArg Pj Gf;simp at this;simp;omega);have z5:(⟨#[32]⟩:ByteArray).size=1:=rfl;have z6:¬ 9223372036854775807<(bs s0).size+1:=z4;have hz:(bs (s0++32::x)).size<=65536:=by rw[Bb,show s0++32::x=s0++[32]++x by simp,<-Gf];omega
      have B4:((bs (s0++32::x)).size:Int)<=65536:=(by omega);have HS:=zh Gf;clear Gf hx hm Lx Iz hb;go_wp2_with fail;go_round
      case rel=>exact⟨j+1,by omega,by go_num,by rw[HS.out];simp⟩
      case measure=>simp[intOf];omega
    ·obtain rfl:j=k:=(by omega);have HJ:PJ (Az ws=Az (ws.take j)):=zh (by rw[Pg (by rw[H0.out.2.2.1];exact zl _)]);go_wp2_with fail;go_ret2;exact⟨by rw[HJ.out];rfl,rfl⟩
abbrev Gj (w:O_) (B:Nat) (v:Pa) (l:List UInt8):Prop:=w.ownsRow B 5 1 v l.length (l.map λ (c:UInt8)=>(Value.int .u8 (c.toNat:Int)))
theorem dT {w:O_} {B:Nat} {v:Pa} {l:List UInt8} (h:Gj w B v l):∃ A c,v=.slice A l.length c/\(convert 97 9 v).run A_ w=.ok (str l) w:=by
 rcases h.2 with ⟨hv,h0⟩ | ⟨g,cap,cur,hv,hb,hg,rest⟩
 ·obtain rfl:=List.eq_nil_of_length_eq_zero h0;exact⟨none,0,by rw[hv];rfl,by rw[hv];exact run_convert_bytes_nil w 97 5 B_ L_ 0 0 9 M_⟩
 ·refine⟨_,cap,hv,?_⟩;subst hv;exact run_convert_bytes_back (P:=A_) w 97 9 5 ⟨g,0,none⟩ cap l B_ L_ M_ (λ j hj=>by
   have e:(⟨g,0,none⟩:Pc).add j=⟨g,j,none⟩:=by unfold Addr.add;split<;>simp_all
   rw[e]
   have:=PE h j (by omega)
   rw[this,Pn,zq hj]
   rfl)
theorem zJ (c:UInt8) (h:97<=(c.toNat:Int)/\(c.toNat:Int)<=122):∃ d:UInt8,PD.wrap ((c.toNat:Int)-32)=(d.toNat:Int) :=
 ⟨PR (c.toNat-32),by
  rw[PC]
  have:(PR (c.toNat-32)).toNat=c.toNat-32:=by
   rw[UInt8.toNat_ofNat'];omega
  rw[this]
  omega⟩
theorem LI (l:List UInt8) (hl:l.length<=100000) (w:O_):Pb A_ 73 #[str l] w λ e w'=>∃ l':List UInt8,e=.returned (str l')/\l'.length=l.length/\Af w w':=by
 obtain⟨L,hL⟩:=zn (l.length);have Da:(bs l).size=L:=(by rw[Bb,hL]);obtain⟨i0,hi,BZ,BG,B4⟩:∃ i,A_.info? 5=some i/\i.zero=some (.int .u8 0)/\i.size=1/\i.bytes=1:=⟨_,rfl,rfl,rfl,rfl⟩;have H0:=zh hL;rw[hL]at hl ⊢;clear hL;have S0:PJ (∃ ds:List UInt8,ds.length=0/\Gj w w.heap.size (.slice none 0 0) ds/\Af w w):=⟨[],rfl,⟨rfl,.inl ⟨rfl,rfl⟩⟩,zr _ _⟩;go_enter Tryz.func73,Tryz.ntmps73;go_wp2_with fail;go_loopw [3,4,5] (λ v3 i _ wr=>∃ k:Nat,k<=L/\i=.int .i64 k/\PJ (∃ ds:List UInt8,ds.length=k/\Gj wr w.heap.size v3 ds/\Af w wr)) (λ _ i _ _=>L-(intOf i).toNat)
 case atStart=>exact⟨0,by omega,rfl,S0⟩
 case round =>
  clear S0;obtain⟨k,hk,rfl,hS⟩:=hrel;by_cases AI:k<L
  ·have k0:(0:Int)<=(k:Int):=(by omega);have k1:(k:Int)<(L:Int):=(by omega);obtain⟨c,hc⟩:=zx (l:=l) (i:=k) (by rw[H0.out];exact AI);have LZ:=Cr l k hc;clear hc;obtain⟨ds,hds,AV,hg⟩:=hS.out;have E7:∀ d:UInt8,∃ w4,wr.alloc (.cells #[.int .u8 (d.toNat:Int)] 5)=w4/\PJ (Gj w4 w.heap.size u3 ds/\Af w w4/\(∀ j u,([.int .u8 (d.toNat:Int)]:List Pa)[j]? = some u->w4.cell? ((⟨wr.heap.size,0,none⟩:Pc).add j)=some u)):=λ d=>by
    refine⟨_,rfl,Af.own (DL _ _ _) AV,hg.trans (DL _ _ _),?_⟩
    exact Pw (heap_alloc_new _ (.cells #[.int .u8 (d.toNat:Int)] 5))
   have fv:ds.length<=100000:=(by omega);have HD:=zh hds;have HFn:=zh E7;clear hS AV hg hds E7;by_cases fA:97<=(c.toNat:Int)/\(c.toNat:Int)<=122
   ·obtain⟨d,hd⟩:=zJ c fA;have d1:decide (97<=(c.toNat:Int))=true:=zt fA.1;have d2:decide ((c.toNat:Int)<=122)=true:=zt fA.2;obtain⟨w4,Dn,H4⟩:=HFn.out d;have tA:w.heap.size<=w4.heap.size:=H4.out.2.1.size;clear HFn fA;go_wp2_with (at_builtin;refine wpList_append_own _ rfl (.tmp 23) (.tmp 25) 97 (by rfl) w.heap.size 5 i0 (.int .u8 0) 1 1 B_ hi BZ BG B4 (by rfl) (by omega) _ _ _ rfl H4.out.1 ⟨wr.heap.size,0,none⟩ 1 1 [.int .u8 (d.toNat:Int)] rfl (by rfl) H4.out.2.2 (by simp[Pe]) (by unfold maxLen;omega) (by omega) (by omega) ?_;intro v' w5 A8 Cn _);have S':PJ (∃ ds:List UInt8,ds.length=k+1/\Gj w5 w.heap.size v' ds/\Af w w5):=⟨ds++[d],by rw[Pf,HD.out];rfl,by
     have h:=A8
     unfold Gj
     simpa using h,H4.out.2.1.grown Cn λ j hj=>.inr (Ap H4.out.1 hj).1⟩
    clear A8 Cn H4;go_wp2_with fail;go_roundw
    case rel=>exact⟨k+1,by omega,by go_num,S'⟩
    case measure=>simp[intOf];omega
   ·obtain⟨d,rfl⟩:∃ d,d=c:=⟨c,rfl⟩;obtain⟨w4,Dn,H4⟩:=HFn.out d;have tA:w.heap.size<=w4.heap.size:=H4.out.2.1.size;clear HFn;by_cases OL:97<=(d.toNat:Int)
    ·have d1:decide (97<=(d.toNat:Int))=true:=zt OL;have d2:decide ((d.toNat:Int)<=122)=false:=zf (λ h=>fA ⟨OL,h⟩);clear fA;go_wp2_with (at_builtin;refine wpList_append_own _ rfl (.tmp 23) (.tmp 25) 97 (by rfl) w.heap.size 5 i0 (.int .u8 0) 1 1 B_ hi BZ BG B4 (by rfl) (by omega) _ _ _ rfl H4.out.1 ⟨wr.heap.size,0,none⟩ 1 1 [.int .u8 (d.toNat:Int)] rfl (by rfl) H4.out.2.2 (by simp[Pe]) (by unfold maxLen;omega) (by omega) (by omega) ?_;intro v' w5 A8 Cn _);have S':PJ (∃ ds:List UInt8,ds.length=k+1/\Gj w5 w.heap.size v' ds/\Af w w5):=⟨ds++[d],by rw[Pf,HD.out];rfl,by
      have h:=A8
      unfold Gj
      simpa using h,H4.out.2.1.grown Cn λ j hj=>.inr (Ap H4.out.1 hj).1⟩
     clear A8 Cn H4;go_wp2_with fail;go_roundw
     case rel=>exact⟨k+1,by omega,by go_num,S'⟩
     case measure=>simp[intOf];omega
    ·have d1:decide (97<=(d.toNat:Int))=false:=zf OL;clear fA;go_wp2_with (at_builtin;refine wpList_append_own _ rfl (.tmp 23) (.tmp 25) 97 (by rfl) w.heap.size 5 i0 (.int .u8 0) 1 1 B_ hi BZ BG B4 (by rfl) (by omega) _ _ _ rfl H4.out.1 ⟨wr.heap.size,0,none⟩ 1 1 [.int .u8 (d.toNat:Int)] rfl (by rfl) H4.out.2.2 (by simp[Pe]) (by unfold maxLen;omega) (by omega) (by omega) ?_;intro v' w5 A8 Cn _);have S':PJ (∃ ds:List UInt8,ds.length=k+1/\Gj w5 w.heap.size v' ds/\Af w w5):=⟨ds++[d],by rw[Pf,HD.out];rfl,by
      have h:=A8
      unfold Gj
      simpa using h,H4.out.2.1.grown Cn λ j hj=>.inr (Ap H4.out.1 hj).1⟩
     clear A8 Cn H4;go_wp2_with fail;go_roundw
     case rel=>exact⟨k+1,by omega,by go_num,S'⟩
     case measure=>simp[intOf];omega
  ·obtain rfl:k=L:=(by omega);obtain⟨ds,hds,AV,hg⟩:=hS.out;have hb:=dT AV;rw[hds]at hb;obtain⟨A,cc,rfl,hcv⟩:=hb;have HF:=BO hds hg;clear hS AV hds hg;go_wp2_with fail;go_ret;exact⟨ds,rfl,HF.out.1,HF.out.2⟩
end Go.Proofs.YtepelooebggliaaGreatDoor
namespace Go.Proofs.YtepelooebggliaaGreatDoor
def EB (ws:List (List UInt8)):List UInt8:=ws.flatMap λ x=>44::x
def Bm:List (List UInt8)->List UInt8
 | []=>[]
 | x::xs=>x++EB xs
theorem dF (x y:List UInt8) (ws:List (List UInt8)):Bm (x::y::ws)=x++44::Bm (y::ws):=by simp[Bm,EB]
theorem jz (x:List UInt8):Bm [x]=x:=by simp[Bm,EB]
theorem dH {ws:List (List UInt8)} (h:ws≠[]) (x:List UInt8):Bm (ws++[x])=Bm ws++44::x:=by
 cases ws with
 | nil=>exact absurd rfl h
 | cons y ws=>simp[Bm,EB]
theorem jr (x l:List UInt8) (c:UInt8) (h:c∉x):PO (x++c::l) c=(x.length:Int):=by
 induction x with
 | nil=>simp[PO]
 | cons b x ih =>
  have hb:(b==c)=false:=by simp at h;simpa using λ e=>h.1 e.symm
  have hi:=ih (by simp at h;exact h.2);rw[List.cons_append,PO,hb,hi];have:((x.length:Int)==-1)=false:=beq_eq_false_iff_ne.2 (by omega);simp[this]
theorem index_none (x:List UInt8) (c:UInt8) (h:c∉x):PO x c=-1:=by
 induction x with
 | nil=>rfl
 | cons b x ih =>
  have hb:(b==c)=false:=by simp at h;simpa using λ e=>h.1 e.symm
  rw[PO,hb,ih (by simp at h;exact h.2)];simp
theorem iC (n:Nat):(44:UInt8)∉dec n:=λ h=>by
 have:=ML n 44 h;simp at this
theorem Ma (ws:List (List UInt8)):(Bm ws).length<=ws.length+(ws.map Pj).sum:=by
 cases ws with
 | nil=>simp[Bm]
 | cons x xs =>
  have:∀ l:List (List UInt8),(EB l).length=l.length+(l.map Pj).sum:=λ l=>by
   induction l with
   | nil=>rfl
   | cons y l ih =>
    have e:EB (y::l)=44::y++EB l:=(by simp[EB]);rw[e,Pf,ih];simp;omega
  rw[Bm,Pf,this];simp;omega
end Go.Proofs.YtepelooebggliaaGreatDoor
namespace Go.Proofs.YtepelooebggliaaGreatDoor
open Go.RowKit
theorem Nv (w:O_) (a:Pc) (f:Fn) (x y:Array Pa) (m:Mode):(store a (.func f x y) m).run A_ w=stored A_ w a (.func f x y) m:=run_store A_ w a _ m rfl
attribute [local go_sem] Nv
theorem Nu {w:O_} {A:Option Pc} {ls:List (List UInt8)} {R k:Nat} {l:List UInt8} {t:TypeId} {cs:Array Pa} (hT:B8 w A ls) (hl:ls[k]? = some l) (hR:Ao w R t cs) (hn:∀ (i:Nat) x,cs[i]? ≠ some (Value.string x)):∀ a,A=some a->a.block≠R:=λ a ha e=>by
 obtain⟨b,off,hA,hb,hc⟩:=hT k _ hl;rw[hA]at ha;cases ha;simp at e;subst e;rw[hR.cell]at hc;exact hn _ _ hc
theorem iQ (R:Nat) (A:Option Pc) (ls:List (List UInt8)) (cap k N p q r:Nat) (w:O_) (hR:Ao w R 201 #[.slice A ls.length cap,i64 k,i64 0]) (h0:ls[k]? = some (dec p)) (h1:ls[k+1]? = some (dec q)) (h2:ls[k+2]? = some (dec r))
  (hp:p<N) (hq:q<N) (hN:N<=4096) (Gu:p≠q) (hr:1<=r/\r<=4294967296) (DS:ls.length<=100000) (hT:B8 w A ls) (Bi:ls.length<=cap) :
  Pb A_ 126 #[pt R,i64 N] w λ e w'=>e=.returned (.agg #[i64 p,i64 q,u64 r])/\Ao w' R 201 #[.slice A ls.length cap,i64 (k+3:Nat),i64 0]/\Kept (·=R) w w':=by
 have Bn:=Nu hT h0 hR (by
  intro i x h;match i,h with
  | 0,h=>simp at h
  | 1,h=>simp at h
  | 2,h=>simp at h
  | n+3,h=>simp at h)
 have iV:=hR.lt
 have w1':PA.wrap ((N:Int)-1)=(N:Int)-1:=Go.IntWalk.u64_in _ (by omega)
 have w0':PB.wrap ((N:Int)-1)=(N:Int)-1:=PQ _ (by omega)
 have cp:PB.wrap (p:Int)=(p:Int):=PQ _ (by omega)
 have cq:PB.wrap (q:Int)=(q:Int):=PQ _ (by omega)
 have N0:(0:Int)<=(N:Int):=by omega
 have N1:(N:Int)<=4096:=by omega
 have k0:Af w (w.alloc (.cells #[i64 0,i64 0,u64 0] 65)):=(zr _ _).alloc _
 have bE:=zv w 65 #[i64 0,i64 0,u64 0]
 have HB:=Lc hR hT Bn k0 bE iV
 have HL:=Fo h0 h1 h2 DS Bi
 have HN:=Fo hp hq hN Gu hr
 have HW:=zh G6
 clear hR h0 h1 h2 hp hq hN Gu hr DS hT Bi Bn k0 bE iV
 go_enter Tryz.func126,Tryz.ntmps126
 go_wp2_with fail
 refine(HW.out _ _ _ _).mono ?_
 rintro e w1 ⟨v,rfl,⟨ga,gb,gc,rfl,Gx,IB,hv3⟩,k1⟩
 have hv:ic w1 (.func (.func 238) #[] #[pt ga,pt gb,pt gc]) 0 ((N:Int)-1) 7:=⟨ga,gb,gc,rfl,Gx,IB,hv3⟩
 clear Gx IB hv3
 have g1:Af w1 (w1.alloc (.cells #[(.func (.func 238) #[] #[pt ga,pt gb,pt gc])] 261)):=(zr _ _).alloc _
 have S1:=zh (show ic (w1.alloc (.cells #[(.func (.func 238) #[] #[pt ga,pt gb,pt gc])] 261)) (.func (.func 238) #[] #[pt ga,pt gb,pt gc]) 0 ((N:Int)-1) 7/\Ao (w1.alloc (.cells #[(.func (.func 238) #[] #[pt ga,pt gb,pt gc])] 261)) w1.heap.size 261 #[(.func (.func 238) #[] #[pt ga,pt gb,pt gc])]/\Ao (w1.alloc (.cells #[(.func (.func 238) #[] #[pt ga,pt gb,pt gc])] 261)) w.heap.size 65 #[i64 0,i64 0,u64 0]/\Ao (w1.alloc (.cells #[(.func (.func 238) #[] #[pt ga,pt gb,pt gc])] 261)) R 201 #[.slice A ls.length cap,i64 k,i64 0]/\B8 (w1.alloc (.cells #[(.func (.func 238) #[] #[pt ga,pt gb,pt gc])] 261)) A ls/\Af w (w1.alloc (.cells #[(.func (.func 238) #[] #[pt ga,pt gb,pt gc])] 261)) from
  ⟨hv.grew g1,zv _ _ _,HB.out.2.2.2.2.1.grew (k1.trans g1),HB.out.1.grew (HB.out.2.2.2.1.trans (k1.trans g1)),HB.out.2.1.grew (HB.out.2.2.2.1.trans (k1.trans g1)),HB.out.2.2.2.1.trans (k1.trans g1)⟩)
 have hVlt:PJ (w.heap.size<w1.heap.size):=by have:=k1.size;simp at this;show _<_;omega
 clear hv k1 g1
 have C1:=zh (JC R A ls cap k p 0 ((N:Int)-1) 7 (.func (.func 238) #[] #[pt ga,pt gb,pt gc]) (w1.alloc (.cells #[(.func (.func 238) #[] #[pt ga,pt gb,pt gc])] 261)) S1.out.2.2.2.1 HL.out.1 (by have:=HN.out;omega) HL.out.2.2.2.1 S1.out.2.2.2.2.1 HL.out.2.2.2.2 S1.out.1 (by have:=HN.out;omega) (by have:=HN.out;omega))
 go_wp2_with fail
 refine C1.out.mono ?_
 rintro e w2 ⟨rfl,MS,k2⟩
 have nE:¬ w.heap.size=R:=by have:=HB.out.2.2.2.2.2;omega
 have nV:¬ w1.heap.size=R:=by have:=HB.out.2.2.2.2.2;have:=hVlt.out;omega
 have bE2:=S1.out.2.2.1.kept k2 nE
 have bV2:=S1.out.2.1.kept k2 nV
 have rq:=S1.out.1.kept k2 (λ g t cs hg ht h=>by subst h;exact AF hg S1.out.2.2.2.1 (by rcases ht with rfl | rfl<;>decide) rfl)
 have hT2:=S1.out.2.2.2.2.1.kept k2 HB.out.2.2.1
 have kk2:=(Af.kept S1.out.2.2.2.2.2).trans k2
 have gS:Kept (·=w.heap.size) w2 (w2.setCell ⟨w.heap.size,0,none⟩ (i64 p)):=(zr (·=w.heap.size) w2).setCell (p:=⟨w.heap.size,0,none⟩) (.inl rfl) _
 have nEV:¬ w1.heap.size=w.heap.size:=by have:=hVlt.out;omega
 have e0:=bE2.cell 0
 have f0:=bE2.frozen 0
 have v0:=(bV2.far (p:=⟨w.heap.size,0,none⟩) nEV (i64 p)).cell 0
 simp at e0 v0
 have S2:=zh (show ic (w2.setCell ⟨w.heap.size,0,none⟩ (i64 p)) (.func (.func 238) #[] #[pt ga,pt gb,pt gc]) 0 ((N:Int)-1) 7/\Ao (w2.setCell ⟨w.heap.size,0,none⟩ (i64 p)) w1.heap.size 261 #[(.func (.func 238) #[] #[pt ga,pt gb,pt gc])]/\Ao (w2.setCell ⟨w.heap.size,0,none⟩ (i64 p)) w.heap.size 65 #[i64 p,i64 0,u64 0]/\Ao (w2.setCell ⟨w.heap.size,0,none⟩ (i64 p)) R 201 #[.slice A ls.length cap,i64 (k+1:Nat),i64 0]/\B8 (w2.setCell ⟨w.heap.size,0,none⟩ (i64 p)) A ls/\Kept (·=R) w (w2.setCell ⟨w.heap.size,0,none⟩ (i64 p)) from
  ⟨rq.kept gS (λ g t cs hg ht h=>by subst h;exact AF hg bE2 (by rcases ht with rfl | rfl<;>decide) rfl),bV2.far (p:=⟨w.heap.size,0,none⟩) nEV _,by have:=bE2.set 0 (i64 p);simpa using this,MS.far (p:=⟨w.heap.size,0,none⟩) (λ h=>nE h.symm) _,
   hT2.kept gS (Nu hT2 HL.out.1 bE2 (by
    intro i x h;match i,h with
    | 0,h=>simp at h
    | 1,h=>simp at h
    | 2,h=>simp at h
    | n+3,h=>simp at h)),kk2.then gS (λ i hi h=>by have h:i=w.heap.size:=h;omega)⟩)
 clear C1 MS k2 bE2 bV2 rq hT2 kk2 gS S1
 have C2:=zh (pw R A ls cap (k+1) q p 0 0 0 ((N:Int)-1) 7 w.heap.size w1.heap.size (.func (.func 238) #[] #[pt ga,pt gb,pt gc]) (w2.setCell ⟨w.heap.size,0,none⟩ (i64 p)) S2.out.2.2.2.1 HL.out.2.1 (by have:=HN.out;omega) HL.out.2.2.2.1 S2.out.2.2.2.2.1 HL.out.2.2.2.2 S2.out.2.2.1 S2.out.2.1 S2.out.1 (by have:=HN.out;omega) (by have:=HN.out;omega) (by have:=HN.out;omega) (by have:=HN.out;omega))
 go_wp2_with fail
 refine C2.out.mono ?_
 rintro e w3 ⟨rfl,fg,k3⟩
 have rl:=S2.out.2.2.1.kept k3 nE
 have hT3:=S2.out.2.2.2.2.1.kept k3 HB.out.2.2.1
 have kk3:=S2.out.2.2.2.2.2.trans k3
 have gS:Kept (·=w.heap.size) w3 (w3.setCell ⟨w.heap.size,1,none⟩ (i64 q)):=(zr (·=w.heap.size) w3).setCell (p:=⟨w.heap.size,1,none⟩) (.inl rfl) _
 have S3:=zh (show Ao (w3.setCell ⟨w.heap.size,1,none⟩ (i64 q)) w.heap.size 65 #[i64 p,i64 q,u64 0]/\Ao (w3.setCell ⟨w.heap.size,1,none⟩ (i64 q)) R 201 #[.slice A ls.length cap,i64 (k+2:Nat),i64 0]/\B8 (w3.setCell ⟨w.heap.size,1,none⟩ (i64 q)) A ls/\Kept (·=R) w (w3.setCell ⟨w.heap.size,1,none⟩ (i64 q)) from
  ⟨by have:=rl.set 1 (i64 q);simpa using this,fg.far (p:=⟨w.heap.size,1,none⟩) (λ h=>nE h.symm) _,hT3.kept gS (Nu hT3 HL.out.1 rl (by
    intro i x h;match i,h with
    | 0,h=>simp at h
    | 1,h=>simp at h
    | 2,h=>simp at h
    | n+3,h=>simp at h)),kk3.then gS (λ i hi h=>by have h:i=w.heap.size:=h;omega)⟩)
 clear e0 f0 v0
 have e0:=rl.cell 1
 have f0:=rl.frozen 1
 simp at e0
 clear C2 fg k3 rl hT3 kk3 gS S2
 go_wp2_with fail
 refine(HW.out _ _ _ _).mono ?_
 rintro e w4 ⟨v2,rfl,hv,k4⟩
 have C3:=zh (JC R A ls cap (k+2) r 1 4294967296 2 v2 w4 (S3.out.2.1.grew k4) HL.out.2.2.1 (by have:=HN.out;omega) HL.out.2.2.2.1 (S3.out.2.2.1.grew k4) HL.out.2.2.2.2 hv (by have:=HN.out;omega) (by have:=HN.out;omega))
 have S4:=BO (S3.out.1.grew k4) (S3.out.2.2.2.grew k4)
 clear hv k4 S3 e0 f0
 go_wp2_with fail
 refine C3.out.mono ?_
 rintro e w5 ⟨rfl,vi,k5⟩
 have uS:=S4.out.1.kept k5 nE
 have e0:=uS.cell 0
 have e1:=uS.cell 1
 have e2:=uS.cell 2
 have f0:=uS.frozen 0
 have f1:=uS.frozen 1
 have f2:=uS.frozen 2
 simp at e0 e1 e2
 have kk:=S4.out.2.trans k5
 have HF:PJ (∀ w6,Kept (·=w.heap.size) w5 w6->Ao w6 R 201 #[.slice A ls.length cap,i64 (k+3:Nat),i64 0]/\Kept (·=R) w w6):=λ w6 g=>⟨vi.kept g (λ h=>nE h.symm),kk.then g (λ i hi h=>by have h:i=w.heap.size:=h;omega)⟩
 have bF:=(((uS.set 2 (u64 r)).set 0 (i64 p)).set 1 (i64 q)).set 2 (u64 r)
 obtain⟨q0,q1,q2⟩:=ma bF
 have gF:Kept (·=w.heap.size) w5 ((((w5.setCell ⟨w.heap.size,2,none⟩ (u64 r)).setCell ⟨w.heap.size,0,none⟩ (i64 p)).setCell ⟨w.heap.size,1,none⟩ (i64 q)).setCell ⟨w.heap.size,2,none⟩ (u64 r)) :=
  ((((zr (·=w.heap.size) w5).setCell (p:=⟨w.heap.size,2,none⟩) (.inl rfl) _).setCell (p:=⟨w.heap.size,0,none⟩) (.inl rfl) _).setCell (p:=⟨w.heap.size,1,none⟩) (.inl rfl) _).setCell (p:=⟨w.heap.size,2,none⟩) (.inl rfl) _
 have HFF:=zh (HF.out _ gF)
 clear bF gF HF C3 vi k5 uS kk S4
 go_wp2_with fail
 refine zy (v:=.agg #[i64 p,i64 q,u64 r]) (by simp[results,Tryz.results126,go_sem,q0,q1,q2]) rfl ⟨rfl,HFF.out⟩
end Go.Proofs.YtepelooebggliaaGreatDoor
namespace Go.Proofs.YtepelooebggliaaGreatDoor
open Go.RowKit
def DA (e:AJ):List (List UInt8):=[dec e.1.toNat,dec e.2.1.toNat,dec e.2.2.toNat]
def AK (n:Nat) (es:List AJ):List (List UInt8):=dec n::dec es.length::es.flatMap DA
theorem aR (es:List AJ):(es.flatMap DA).length=3*es.length:=by
 induction es with
 | nil=>rfl
 | cons e es ih=>rw[Po,Pf,ih];simp[DA];omega
theorem CY (n:Nat) (es:List AJ):(AK n es).length=2+3*es.length:=by unfold AK;rw[Pt,Pt,aR];omega
theorem Ey:∀ (es:List AJ) (i j:Nat) (e:AJ),es[i]? = some e->j<3->(es.flatMap DA)[3*i+j]? = (DA e)[j]?
 | [],i,j,e,h,_=>by simp at h
 | x::es,0,j,e,h,hj=>by
  simp only[List.getElem?_cons_zero,Option.some.injEq]at h;subst h;rw[Po,Nat.mul_zero,Nat.zero_add,List.getElem?_append_left (by simp[DA];omega)]
 | x::es,i+1,j,e,h,hj=>by
  rw[Pk]at h;have ih:=Ey es i j e h hj;have e2:(DA x).length=3:=rfl;rw[Po,List.getElem?_append_right (by omega),e2,show 3*(i+1)+j-3=3*i+j by omega];exact ih
theorem K7 {n:Nat} {es:List AJ} {k:Nat} {p q r:Nat} (h:es[k]? = some ((p:Int),(q:Int),(r:Int))):(AK n es)[2+3*k]? = some (dec p)/\(AK n es)[2+3*k+1]? = some (dec q)/\(AK n es)[2+3*k+2]? = some (dec r):=by
 have e:∀ j,(AK n es)[2+3*k+j]? = (es.flatMap DA)[3*k+j]? := λ j=>by
  unfold AK;rw[show 2+3*k+j=(3*k+j)+1+1 by omega,Pk,Pk]
 refine⟨?_,?_,?_⟩
 ·rw[<- Nat.add_zero (2+3*k),e 0,Ey es k 0 _ h (by omega)];simp[DA]
 ·rw[e 1,Ey es k 1 _ h (by omega)];simp[DA]
 ·rw[e 2,Ey es k 2 _ h (by omega)];simp[DA]
theorem O0 {N:Nat} {es:List AJ} {k:Nat} {e:AJ} (hr:Au N es=0) (h:es[k]? = some e):∃ p q r:Nat,e=((p:Int),(q:Int),(r:Int))/\p<N/\q<N/\p≠q/\1<=r/\r<=4294967296:=by
 have:=CT hr (zm h);unfold NG at this;obtain⟨p,q,r⟩:=e;simp only at this;exact⟨p.toNat,q.toNat,r.toNat,by simp;omega,by omega,by omega,by omega,by omega,by omega⟩
structure GpS (w:O_) (A:Option Pc) (cap L N:Nat) (es:List AJ) (k:Nat) (v:Pa) (wr:O_):Prop where
 rd:Ao wr (w.heap.size+1) 201 #[.slice A L cap,i64 (2+3*k:Nat),i64 0]
 gr:Ao wr w.heap.size 24 #[i64 N,v]
 own:AP wr (w.heap.size+2) v (es.take k)
 kept:Af w wr
theorem cX (A:Option Pc) (cap N:Nat) (es:List AJ) (w:O_) (hr:Au N es=0) (hm:es.length<=1000) (hT:B8 w A (AK N es)) (Bi:(AK N es).length<=cap) :
  Pb A_ 89 #[.slice A (AK N es).length cap] w λ e w'=>∃ v,e=.returned (.tuple #[.agg #[i64 N,v],i64 0,i64 0])/\AP w' w.heap.size v es/\Af w w':=by
 obtain⟨i0,hi,BZ,BG,B4⟩:=info_parts F4
 obtain⟨L,hL⟩:=zn ((AK N es).length)
 obtain⟨m,Jy⟩:=zn (es.length)
 have ny:L=2+3*m:=by rw[<- hL,CY,Jy]
 have hrz:=right_zero hr
 have HR:=zh hr
 have HM:=zh Jy
 have HL:=zh hL
 have HL2:=zh ny
 have HRZ:PJ (1<=N/\N<=4096):=⟨by omega,by omega⟩
 have k0:Af w ((w.alloc (.cells #[i64 0,.slice none 0 0] 24)).alloc (.cells #[.slice A L cap,i64 0,i64 0] 201)):=((zr _ _).alloc _).alloc _
 have bG:=(zv w 24 #[i64 0,.slice none 0 0]).alloc (.cells #[.slice A L cap,i64 0,i64 0] 201)
 have bR:=zv (w.alloc (.cells #[i64 0,.slice none 0 0] 24)) 201 #[.slice A L cap,i64 0,i64 0]
 rw[Px]at bR
 have hT0:=hT.grew k0
 have HT:=zh hT
 rw[hL]at Bi
 have hF:=iN (w.heap.size+1) A (AK N es) cap N m ((w.alloc (.cells #[i64 0,.slice none 0 0] 24)).alloc (.cells #[.slice A L cap,i64 0,i64 0] 201)) (by rw[hL];exact bR) rfl (by unfold AK;rw[Jy];rfl) HRZ.out (by omega) (by rw[hL];omega) hT0 (by rw[hL];exact Bi)
 rw[hL]at hF ⊢
 have HF:=zh hF
 have HB:=BO bG k0
 have m1:(m:Int)<=1000:=by omega
 have HC:=zh Bi
 clear hr Jy hL ny hrz hT hT0 hF bG bR k0 Bi hm
 go_enter Tryz.func89,Tryz.ntmps89
 go_wp2_with fail
 go_step3
 go_wp2_with fail
 refine HF.out.mono ?_
 rintro e w1 ⟨rfl,hR1,k1⟩
 have bG1:=HB.out.1.kept k1 (by show ¬ w.heap.size=w.heap.size+1;omega)
 have kk1:Af w w1:=HB.out.2.then k1 (λ i hi h=>by have h:i=w.heap.size+1:=h;omega)
 have e0:=bG1.cell 0
 have f0:=bG1.frozen 0
 simp at e0
 have gS:Kept (·=w.heap.size) w1 (w1.setCell ⟨w.heap.size,0,none⟩ (i64 N)):=(zr (·=w.heap.size) w1).setCell (p:=⟨w.heap.size,0,none⟩) (.inl rfl) _
 have S0:PJ (GpS w A cap L N es 0 (.slice none 0 0) (w1.setCell ⟨w.heap.size,0,none⟩ (i64 N))):=by
  refine⟨hR1.far (p:=⟨w.heap.size,0,none⟩) (by show w.heap.size+1≠w.heap.size;omega) _,?_,World.ownsRow_nil _ _ _ _,kk1.then gS (λ i hi h=>by have h:i=w.heap.size:=h;omega)⟩;have:=bG1.set 0 (i64 N);simpa using this
 clear HF HB hR1 k1 bG1 kk1 gS
 go_wp2_with fail
 clear e0 f0
 go_loopw [19] (λ i wr=>∃ (k:Nat) (A2:Option Pc) (c2:Nat),k<=m/\i=.int .i64 k/\PJ (GpS w A cap L N es k (.slice A2 k c2) wr)) (λ i _=>m-(intOf i).toNat)
 case atStart=>exact⟨0,none,0,by omega,rfl,S0⟩
 case round =>
  clear S0;obtain⟨k,A2,c2,hk,rfl,hS⟩:=hrel;have r0:=hS.out.rd.cell 0;have r1:=hS.out.rd.cell 1;have r2:=hS.out.rd.cell 2;have g1:=hS.out.gr.cell 1;have gf:=hS.out.gr.frozen 1;simp at r0 r1 r2 g1;by_cases AI:k<m
  ·as_aux_lemma =>
   have l1:(k:Int)<(m:Int):=(by omega);obtain⟨x,hx⟩:=zx (l:=es) (i:=k) (by rw[HM.out];exact AI);obtain⟨p,q,r,rfl,hp,hq,Gu,NQ,L8⟩:=O0 HR.out hx;obtain⟨w0',w1',w2'⟩:=K7 (n:=N) hx;have hTr:=HT.out.grew hS.out.kept;have hE:=iQ (w.heap.size+1) A (AK N es) cap (2+3*k) N p q r wr.drew (by rw[HL.out];exact hS.out.rd) w0' w1' w2' hp hq HRZ.out.2 Gu ⟨NQ,L8⟩ (by rw[HL.out,HL2.out];omega) hTr (by rw[HL.out];exact HC.out);rw[HL.out]at hE;have HE:=zh hE;have D2:=hS.out.own;have Ef:(es.take k).length=k:=by rw[Pp,HM.out];omega
   unfold AP at D2;rw[Ef]at D2;have HO:=zh D2;have HT1:PJ (es.take (k+1)=es.take k++[((p:Int),(q:Int),(r:Int))]/\(es.take (k+1)).length=k+1):=by
    refine⟨by rw[Pm,hx];rfl,by rw[Pp,HM.out];omega⟩
   have nG:¬ (Pd A2 k c2).ownBlock=some w.heap.size:=λ h=>by have:=(D2.lt _ h).1;omega
   have nR:¬ (Pd A2 k c2).ownBlock=some (w.heap.size+1):=λ h=>by have:=(D2.lt _ h).1;omega
   have Da:=hS.out.kept.size;have hsz2:w.heap.size+2<=wr.heap.size:=by have:=hS.out.rd.lt;omega
   have HGR:=zh hS.out.gr;have HKP:=zh hS.out.kept;clear hx w0' w1' w2' hTr hE D2 hS hp hq Gu NQ L8 Ef;go_wp2_with fail;refine rG [8] (λ j=>j=w.heap.size+1\/(Pd A2 k c2).ownBlock=some j) ?_;refine pG 0 26 ?_;refine tG 1 27 (y:=λ w' Aj=>by have AN:=((zr (λ j=>j=w.heap.size+1\/(Pd A2 k c2).ownBlock=some j) wr).drew.trans Aj).cell (p:=⟨w.heap.size,1,none⟩) g1 (by rintro (h | h);(have h:w.heap.size=w.heap.size+1:=h;omega);exact nG h);go_simp<;>with_reducible rfl) (h:=?_);refine pG 2 28 ?_;refine pG 3 29 ?_;refine sG 4 30 (λ K Al=>?_);go_simp;refine HE.out.mono ?_;rintro e wS ⟨rfl,xP,kS⟩;show K _ _;refine Al (.agg #[i64 p,i64 q,u64 r]) _ (λ _=>kS.mono (λ i hi h=>.inl h)) ?_;clear Al;simp only[sA];refine sG 5 31 (λ K Al=>?_);have kS0:Kept (·=w.heap.size+1) wr wS:=kS.undrew;have oS:PJ (wS.ownsRow (w.heap.size+2) 65 3 (.slice A2 k c2) k (cellsOf (es.take k))):=Kept.own kS0 HO.out (λ j hj h=>nR (by have h:j=w.heap.size+1:=h;rw[<- h];exact hj));have hN:PJ (∀ j u,(BB ((p:Int),(q:Int),(r:Int)))[j]? = some u->(wS.alloc (.cells #[i64 p,i64 q,u64 r] 65)).cell? ((⟨wS.heap.size,0,none⟩:Pc).add j)=some u):=Pw (heap_alloc_new wS (.cells #[i64 p,i64 q,u64 r] 65));have szS:=kS0.size;go_simp;refine Al _ _ (λ _=>(zr _ _).alloc _) ?_;clear Al;simp only[sA];refine sG 6 32 (λ K Al=>?_);refine wp_append_lies _ (.tmp 27) (.tmp 31) 22 (by rfl) (w.heap.size+2) 65 i0 (.agg #[i64 0,i64 0,.int .u64 0]) 3 24 N_ hi BZ BG B4 (by rfl) (by omega) (.slice A2 k c2) k (cellsOf (es.take k)) (by rfl) (Af.own ((zr (λ _=>False) _).alloc _) oS.out) ⟨wS.heap.size,0,none⟩ 1 1 (BB ((p:Int),(q:Int),(r:Int))) (by rfl) (by rfl) hN.out ?_ (by omega) ?_ ?_ ?_ _ rfl ?_
   ·intro u hu;simp[BB]at hu;rcases hu with rfl | rfl | rfl<;>rfl
   ·unfold maxLen;omega
   ·omega
   ·simp;omega
   intro g cp wa Bj AQ _ _;refine Al _ _ (λ _=>(zr _ _).grown AQ (λ k hk=>.inl (.inr hk))) ?_;clear Al;simp only[sA];refine pG 7 33 ?_;refine Du 8 (λ K Al=>?_);have kA:Kept (λ j=>(Pd A2 k c2).ownBlock=some j) wS wa:=((zr _ _).alloc _).grown AQ (λ k hk=>.inl hk);have bGa:=(HGR.out.kept kS0 (by show ¬ w.heap.size=w.heap.size+1;omega)).kept kA nG;have ga:=bGa.cell 1;have gfa:=bGa.frozen 1;simp at ga;go_simp;refine Al _ (λ h=>absurd (by simp) h) ?_;clear Al;refine dG ?_;have hgB:=(Bj.lt g rfl).1;have hF:Kept (·=w.heap.size) wa (wa.setCell ⟨w.heap.size,1,none⟩ (.slice (some ⟨g,0,none⟩) (k+1) cp)):=(zr (·=w.heap.size) wa).setCell (p:=⟨w.heap.size,1,none⟩) (.inl rfl) _;have CH:PJ (GpS w A cap L N es (k+1) (.slice (some ⟨g,0,none⟩) (k+1) cp) (wa.setCell ⟨w.heap.size,1,none⟩ (.slice (some ⟨g,0,none⟩) (k+1) cp))):=by
    refine⟨(xP.kept kA nR).far (p:=⟨w.heap.size,1,none⟩) (by show w.heap.size+1≠w.heap.size;omega) _,?_,?_,?_⟩
    ·have q:=bGa.set 1 (.slice (some ⟨g,0,none⟩) (k+1) cp);simpa using q
    ·unfold AP;rw[HT1.out.2,HT1.out.1,Ca,Of];exact Kept.own hF Bj (λ j hj h=>by
      obtain rfl:g=j:=PI hj
      have h:g=w.heap.size:=h
      omega)
    ·exact((HKP.out.then kS0 (λ i hi h=>by have h:i=w.heap.size+1:=h;omega)).then kA (λ i hi h=>by have:=(HO.out.lt i h).1;omega)).then hF (λ i hi h=>by have h:i=w.heap.size:=h;omega)
   clear Bj AQ kA bGa hF oS hN kS kS0 xP HGR HKP HO HT1 ga gfa r0 r1 r2 g1 gf HE;go_wp2_with fail;go_roundw
   case rel=>exact⟨k+1,_,_,by omega,by go_num,CH⟩
   case measure=>simp[intOf];omega
  ·as_aux_lemma =>
   obtain rfl:k=m:=(by omega);have g0:=hS.out.gr.cell 0;have gf0:=hS.out.gr.frozen 0;simp at g0;have l2:(L:Int)<=2+3*(k:Int):=by rw[HL2.out];omega
   have te:es.take k=es:=Pg (by rw[HM.out];exact zl _);have own:=hS.out.own;rw[te]at own;have nG:¬ (Pd A2 k c2).ownBlock=some w.heap.size:=λ h=>by have:=(own.lt _ h).1;omega
   have bF:=(hS.out.gr.set 0 (i64 N)).set 1 (.slice A2 k c2);obtain⟨q0,q1⟩:=BP bF;have gF:Kept (·=w.heap.size) wr ((wr.setCell ⟨w.heap.size,0,none⟩ (i64 N)).setCell ⟨w.heap.size,1,none⟩ (.slice A2 k c2)):=((zr (·=w.heap.size) wr).setCell (p:=⟨w.heap.size,0,none⟩) (.inl rfl) _).setCell (p:=⟨w.heap.size,1,none⟩) (.inl rfl) _;have HFF:=zh (show AP ((wr.setCell ⟨w.heap.size,0,none⟩ (i64 N)).setCell ⟨w.heap.size,1,none⟩ (.slice A2 k c2)) w.heap.size (.slice A2 k c2) es/\Af w ((wr.setCell ⟨w.heap.size,0,none⟩ (i64 N)).setCell ⟨w.heap.size,1,none⟩ (.slice A2 k c2)) from
    ⟨AD (Kept.own gF own (λ j hj h=>by have h:j=w.heap.size:=h;rw[h]at hj;exact nG hj)) (by omega),hS.out.kept.then gF (λ i hi h=>by have h:i=w.heap.size:=h;omega)⟩)
   clear hS own bF gF te nG;go_wp2_with fail;rw[Exit.noGoto_ret];refine zy (v:=.tuple #[.agg #[i64 N,.slice A2 k c2],i64 0,i64 0]) (by simp[results,Tryz.results89,go_sem,q0,q1]) rfl ⟨_,rfl,HFF.out⟩
def OwnQ (w:O_) (B:Nat) (q:Pa) (qs:List (Int×Int)):Prop:=w.ownsRow B 172 2 q qs.length (qs.flatMap λ r=>[u64 r.1,u64 r.2])
structure ET (w:O_) (X:Nat) (nm:List UInt8) (v:Pa) (zs:List Int) (wv:Int) (q:Pa) (qs:List (Int×Int)) (gn:Int) (ge rk:Pa) (f:Int):Prop where
 blk:Ao w X 124 #[str nm,v,u64 wv,q,i64 gn,ge,rk,i64 f]
 own:AS w (X+1) v zs
 ownq:OwnQ w (X+1) q qs
theorem ET.kept {F:Nat->Prop} {w w':O_} {X:Nat} {nm:List UInt8} {v:Pa} {zs:List Int} {qs:List (Int×Int)} {wv gn f:Int} {q ge rk:Pa} (h:ET w X nm v zs wv q qs gn ge rk f) (k:Kept F w w') (hX:¬ F X) (hv:∀ j,v.ownBlock=some j->¬ F j) (hq:∀ j,q.ownBlock=some j->¬ F j):ET w' X nm v zs wv q qs gn ge rk f:=⟨h.blk.kept k hX,h.own.kept k hv,Kept.own k h.ownq hq⟩
theorem ET.grew {w w':O_} {X:Nat} {nm:List UInt8} {v:Pa} {zs:List Int} {qs:List (Int×Int)} {wv gn f:Int} {q ge rk:Pa} (h:ET w X nm v zs wv q qs gn ge rk f) (k:Af w w'):ET w' X nm v zs wv q qs gn ge rk f:=h.kept k (λ h=>h) (λ _ _ h=>h) (λ _ _ h=>h)
theorem ET.other {w w':O_} {X I:Nat} {o:Obj} {nm:List UInt8} {v:Pa} {zs:List Int} {qs:List (Int×Int)} {wv gn f:Int} {q ge rk:Pa} (h:ET w X nm v zs wv q qs gn ge rk f) (k:Kept (·=I) w w') (hI:w.heap[I]? = some o) (ho:∀ cs t r,o≠.cells cs t r):ET w' X nm v zs wv q qs gn ge rk f:=by
 refine h.kept k (λ e=>?_) (λ j hj e=>?_) (λ j hj e=>?_)
 ·have e:X=I:=e;subst e;have:=(show w.heap[X]? = _ from h.blk).symm.trans hI;exact ho _ _ _ (PI this).symm
 ·have e:j=I:=e;subst e;obtain⟨_,c,hc⟩:=Ap h.own hj;exact ho _ _ _ (PI (hc.symm.trans hI)).symm
 ·have e:j=I:=e;subst e;obtain⟨_,c,hc⟩:=Ap h.ownq hj;exact ho _ _ _ (PI (hc.symm.trans hI)).symm
theorem F7 (X:Nat) (nm:List UInt8) (v:Pa) (zs:List Int) (wv:Int) (q:Pa) (qs:List (Int×Int)) (gn:Int) (ge rk:Pa) (f:Int) (l:List UInt8) (n lo hi:Nat) (w:O_) (h:ET w X nm v zs wv q qs gn ge rk f) (hd:Dd l n) (h1:lo<=n) (h2:n<=hi) (h3:hi<=1000000) (hz:zs.length<=1000) :
  Pb A_ 132 #[pt X,str l,i64 lo,i64 hi] w λ e w'=>e=.returned (.tuple #[])/\(∃ v',ET w' X nm v' (zs++[(n:Int)]) wv q qs gn ge rk 0)/\Kept (λ j=>j=X\/v.ownBlock=some j) w w':=by
 obtain⟨i0,jd,BZ,BG,B4⟩:=info_parts info_int
 have HI:=zh (fK l n hi hd h2 h3 w)
 have d1:¬ (n:Int)<(lo:Int):=by omega
 obtain⟨Z,hZ⟩:=zn (zs.length)
 have hov:=h.own
 unfold AS at hov
 rw[hZ]at hz hov
 obtain⟨A2,c2,IB,_⟩:=h.own.row
 rw[hZ]at IB
 have HV:=zh IB
 have HO:=zh hov
 have HB:=zh h.blk
 have HQ:=BO h.ownq (λ j hj=>C6 h.own h.ownq (by decide) (j:=j) hj)
 have HZ:=zh hZ
 have hXl:=h.blk.lt
 have n0:(0:Int)<=(n:Int):=by omega
 have n9:(n:Int)<=1000000:=by omega
 subst IB
 clear h hd h1 h2 h3 hov hZ
 go_enter Tryz.func132,Tryz.ntmps132
 go_wp2_with fail
 refine HI.out.mono ?_
 rintro e w1 ⟨rfl,k1⟩
 have Fv:=HB.out.grew k1
 have e1:=Fv.cell 1
 have e7:=Fv.cell 7
 have f1:=Fv.frozen 1
 have f7:=Fv.frozen 7
 simp at e1 e7
 have own1:PJ ((w1.alloc (.cells #[i64 n] 3)).ownsRow (X+1) 3 1 (.slice A2 Z c2) Z (zs.map i64)):=Af.own (k1.trans ((zr _ _).alloc _)) HO.out
 have hN:PJ (∀ r u,[i64 n][r]? = some u->(w1.alloc (.cells #[i64 n] 3)).cell? ((⟨w1.heap.size,0,none⟩:Pc).add r)=some u):=Pw (heap_alloc_new w1 (.cells #[i64 n] 3))
 have Da:=k1.size
 have dy:PJ (X+1<=w1.heap.size):=by show _<=_;omega
 have nX:¬ (Pd A2 Z c2).ownBlock=some X:=λ h=>by have:=(HO.out.lt _ h).1;omega
 have Gd:=zh Fv
 have K1:=zh k1
 clear HI k1 Fv Da
 go_wp2_with
  (at_builtin
   refine wpList_append_lies _ rfl (.tmp 29) (.tmp 31) 26 (by rfl) (X+1) 3 i0 (.int .i64 0) 1 8 Tryz.underlying26 jd BZ BG B4 (by rfl) (by omega) (.slice A2 Z c2) Z (zs.map i64) (by rfl) own1.out ⟨w1.heap.size,0,none⟩ 1 1 [i64 n] (by rfl) (by rfl) hN.out (by intro u hu;simp at hu;subst hu;rfl) (by omega) (by unfold maxLen;omega) (by omega) (by have:=dy.out;simp;omega) _ rfl ?_
   intro g cp wa Bj AQ _ _
   have kA:Kept (λ j=>(Pd A2 Z c2).ownBlock=some j) w1 wa:=((zr _ _).alloc _).grown AQ (λ k hk=>.inl hk)
   have lD:=Gd.out.kept kA nX
   have a1:=lD.cell 1
   have a7:=lD.cell 7
   have b1:=lD.frozen 1
   have b7:=lD.frozen 7
   simp at a1 a7
   have HF:PJ ((∃ v',ET ((wa.setCell ⟨X,1,none⟩ (.slice (some ⟨g,0,none⟩) (Z+1) cp)).setCell ⟨X,7,none⟩ (i64 0)) X nm v' (zs++[(n:Int)]) wv q qs gn ge rk 0)/\Kept (λ j=>j=X\/(Pd A2 Z c2).ownBlock=some j) w ((wa.setCell ⟨X,1,none⟩ (.slice (some ⟨g,0,none⟩) (Z+1) cp)).setCell ⟨X,7,none⟩ (i64 0))):=by
    have gX:Kept (·=X) wa ((wa.setCell ⟨X,1,none⟩ (.slice (some ⟨g,0,none⟩) (Z+1) cp)).setCell ⟨X,7,none⟩ (i64 0)):=((zr (·=X) wa).setCell (p:=⟨X,1,none⟩) (.inl rfl) _).setCell (p:=⟨X,7,none⟩) (.inl rfl) _;have hgB:X+1<=g:=(Bj.lt g rfl).1;refine⟨⟨.slice (some ⟨g,0,none⟩) (Z+1) cp,?_,?_,?_⟩,?_⟩
    ·have:=(lD.set 1 (.slice (some ⟨g,0,none⟩) (Z+1) cp)).set 7 (i64 0);simpa using this
    ·unfold AS;rw[Pf,HZ.out,List.map_append];exact Kept.own gX Bj (λ j hj h=>by
      obtain rfl:g=j:=PI hj
      have h:g=X:=h
      omega)
    ·exact Kept.own gX (Kept.own kA (Af.own K1.out HQ.out.1) (λ j hj h=>HQ.out.2 j h hj)) (λ j hj h=>by
      have h:j=X:=h;have:=(HQ.out.1.lt j hj).1;omega)
    ·exact((Af.kept K1.out).trans (kA.mono λ i hi h=>.inr h)).trans (gX.mono λ i hi h=>.inl h)
   clear Bj AQ kA lD)
 clear own1 hN dy Gd K1
 go_wp2_with fail
 go_end0
 exact⟨rfl,HF.out⟩
theorem zD (X:Nat) (nm:List UInt8) (v:Pa) (zs:List Int) (wv:Int) (q:Pa) (qs:List (Int×Int)) (gn:Int) (ge rk:Pa) (f:Int) (l:List UInt8) (n:Nat) (w:O_) (h:ET w X nm v zs wv q qs gn ge rk f) (hd:Dd l n) (h1:0<=n) (h2:n<=4095) (hz:zs.length<=1000) :
  Pb A_ 92 #[pt X,.int .i32 110,str l] w λ e w'=>e=.returned (.tuple #[])/\(∃ v',ET w' X nm v' (zs++[(n:Int)]) wv q qs gn ge rk 0)/\Kept (λ j=>j=X\/v.ownBlock=some j) w w':=by
 have HN:=zh (F7 X nm v zs wv q qs gn ge rk f l n 0 4095 w h hd h1 h2 (by decide) hz)
 clear h hd h1 h2 hz
 go_enter J_,G_
 go_wp2_with fail
 refine HN.out.mono ?_
 rintro e w1 ⟨rfl,h2⟩
 have H2:=zh h2
 clear h2 HN
 go_wp2_with fail
 go_end0
 exact⟨rfl,H2.out⟩
theorem zA (X:Nat) (nm:List UInt8) (v:Pa) (zs:List Int) (wv:Int) (q:Pa) (qs:List (Int×Int)) (gn:Int) (ge rk:Pa) (f:Int) (l:List UInt8) (n:Nat) (w:O_) (h:ET w X nm v zs wv q qs gn ge rk f) (hd:Dd l n) (h1:0<=n) (h2:n<=16383) (hz:zs.length<=1000) :
  Pb A_ 92 #[pt X,.int .i32 101,str l] w λ e w'=>e=.returned (.tuple #[])/\(∃ v',ET w' X nm v' (zs++[(n:Int)]) wv q qs gn ge rk 0)/\Kept (λ j=>j=X\/v.ownBlock=some j) w w':=by
 have HN:=zh (F7 X nm v zs wv q qs gn ge rk f l n 0 16383 w h hd h1 h2 (by decide) hz)
 clear h hd h1 h2 hz
 go_enter J_,G_
 go_wp2_with fail
 refine HN.out.mono ?_
 rintro e w1 ⟨rfl,h2⟩
 have H2:=zh h2
 clear h2 HN
 go_wp2_with fail
 go_end0
 exact⟨rfl,H2.out⟩
theorem zB (X:Nat) (nm:List UInt8) (v:Pa) (zs:List Int) (wv:Int) (q:Pa) (qs:List (Int×Int)) (gn:Int) (ge rk:Pa) (f:Int) (l:List UInt8) (n:Nat) (w:O_) (h:ET w X nm v zs wv q qs gn ge rk f) (hd:Dd l n) (h1:1<=n) (h2:n<=1024) (hz:zs.length<=1000) :
  Pb A_ 92 #[pt X,.int .i32 107,str l] w λ e w'=>e=.returned (.tuple #[])/\(∃ v',ET w' X nm v' (zs++[(n:Int)]) wv q qs gn ge rk 0)/\Kept (λ j=>j=X\/v.ownBlock=some j) w w':=by
 have HN:=zh (F7 X nm v zs wv q qs gn ge rk f l n 1 1024 w h hd h1 h2 (by decide) hz)
 clear h hd h1 h2 hz
 go_enter J_,G_
 go_wp2_with fail
 refine HN.out.mono ?_
 rintro e w1 ⟨rfl,h2⟩
 have H2:=zh h2
 clear h2 HN
 go_wp2_with fail
 go_end0
 exact⟨rfl,H2.out⟩
theorem zF (X:Nat) (nm:List UInt8) (v:Pa) (zs:List Int) (wv:Int) (q:Pa) (qs:List (Int×Int)) (gn:Int) (ge rk:Pa) (f:Int) (l:List UInt8) (n:Nat) (w:O_) (h:ET w X nm v zs wv q qs gn ge rk f) (hd:Dd l n) (h1:0<=n) (h2:n<=100) (hz:zs.length<=1000) :
  Pb A_ 92 #[pt X,.int .i32 111,str l] w λ e w'=>e=.returned (.tuple #[])/\(∃ v',ET w' X nm v' (zs++[(n:Int)]) wv q qs gn ge rk 0)/\Kept (λ j=>j=X\/v.ownBlock=some j) w w':=by
 have HN:=zh (F7 X nm v zs wv q qs gn ge rk f l n 0 100 w h hd h1 h2 (by decide) hz)
 clear h hd h1 h2 hz
 go_enter J_,G_
 go_wp2_with fail
 refine HN.out.mono ?_
 rintro e w1 ⟨rfl,h2⟩
 have H2:=zh h2
 clear h2 HN
 go_wp2_with fail
 go_end0
 exact⟨rfl,H2.out⟩
theorem zG (X:Nat) (nm:List UInt8) (v:Pa) (zs:List Int) (wv:Int) (q:Pa) (qs:List (Int×Int)) (gn:Int) (ge rk:Pa) (f:Int) (l:List UInt8) (n:Nat) (w:O_) (h:ET w X nm v zs wv q qs gn ge rk f) (hd:Dd l n) (hn:n<18446744073709551616) :
  Pb A_ 92 #[pt X,.int .i32 119,str l] w λ e w'=>e=.returned (.tuple #[])/\ET w' X nm v zs n q qs gn ge rk (if 1<=n/\n<=4294967296 then 0 else 2)/\Kept (λ j=>j=X\/v.ownBlock=some j) w w':=by
 have HN:=zh (Ga l n hd hn w)
 have HH:=zh h
 have hXl:=h.blk.lt
 clear h hd
 have key:n<1\/(1<=n/\n<=4294967296)\/4294967296<n:=by omega
 rcases key with hc | hc | hc
 all_goals
  first
  | (have d1:(n:Int)<1:=by omega
     rw[if_neg (by omega)])
  | (have d1:¬ (n:Int)<1:=by omega
     have d2:¬ (4294967296:Int)<(n:Int):=by omega
     rw[if_pos (by omega)])
  | (have d1:¬ (n:Int)<1:=by omega
     have d2:(4294967296:Int)<(n:Int):=by omega
     rw[if_neg (by omega)])
  clear hc
  go_enter J_,G_
  go_wp2_with fail
  refine HN.out.mono ?_
  rintro e w1 ⟨rfl,k1⟩
  have hb:=HH.out.grew k1
  have e2:=hb.blk.cell 2
  have e7:=hb.blk.cell 7
  have f2:=hb.blk.frozen 2
  have f7:=hb.blk.frozen 7
  simp at e2 e7
  have HF:PJ (∀ fo:Int,ET ((w1.setCell ⟨X,2,none⟩ (u64 n)).setCell ⟨X,7,none⟩ (i64 fo)) X nm v zs n q qs gn ge rk fo/\Kept (λ j=>j=X\/v.ownBlock=some j) w ((w1.setCell ⟨X,2,none⟩ (u64 n)).setCell ⟨X,7,none⟩ (i64 fo))):=λ fo=>by
   have gX:Kept (·=X) w1 ((w1.setCell ⟨X,2,none⟩ (u64 n)).setCell ⟨X,7,none⟩ (i64 fo)):=((zr (·=X) w1).setCell (p:=⟨X,2,none⟩) (.inl rfl) _).setCell (p:=⟨X,7,none⟩) (.inl rfl) _;refine⟨⟨?_,hb.own.kept gX (λ j hj h=>?_),Kept.own gX hb.ownq (λ j hj h=>?_)⟩,(Af.kept k1).trans (gX.mono λ i hi h=>.inl h)⟩
   ·have:=(hb.blk.set 2 (u64 n)).set 7 (i64 fo);simpa using this
   ·have h:j=X:=h;have:=(hb.own.lt j hj).1;omega
   ·have h:j=X:=h;have:=(hb.ownq.lt j hj).1;omega
  clear HN hb
  go_wp2_with fail
  go_end0
  exact⟨rfl,HF.out _⟩
structure Arg where
 k:UInt8
 l:List UInt8
 n:Nat
 d:Nat
structure St where
 zs:List Int
 wv:Int
 qs:List (Int×Int)
 f:Int
def NJ (s:St) (a:Arg):St :=
 if a.k=119 then { s with wv:=a.n,f:=if 1<=a.n/\a.n<=4294967296 then 0 else 2 } else if a.k=97 then { s with wv:=a.n,f:=0 }
 else if a.k=114 then { s with qs:=s.qs++[((a.n:Int),(a.d:Int))],f:=0 } else { s with zs:=s.zs++[(a.n:Int)],f:=0 }
def Df (s:St) (D0:List Arg):St:=D0.foldl NJ s
def N8 (a:Arg):Prop :=
 (a.k=110/\Dd a.l a.n/\a.n<=4095)\/(a.k=101/\Dd a.l a.n/\a.n<=16383)\/(a.k=107/\Dd a.l a.n/\1<=a.n/\a.n<=1024)\/(a.k=111/\Dd a.l a.n/\a.n<=100)\/(a.k=119/\Dd a.l a.n/\a.n<18446744073709551616)
theorem pX (X:Nat) (nm:List UInt8) (v:Pa) (s:St) (q:Pa) (gn:Int) (ge rk:Pa) (a:Arg) (w:O_) (h:ET w X nm v s.zs s.wv q s.qs gn ge rk s.f) (ha:N8 a) (hz:s.zs.length<=1000) :
  Pb A_ 92 #[pt X,.int .i32 (a.k.toNat:Int),str a.l] w λ e w'=>e=.returned (.tuple #[])/\(∃ v' q',ET w' X nm v' (NJ s a).zs (NJ s a).wv q' (NJ s a).qs gn ge rk (NJ s a).f)/\Kept (λ j=>j=X\/v.ownBlock=some j\/q.ownBlock=some j) w w':=by
 obtain⟨ak,al,an,ad⟩:=a
 unfold N8 at ha
 simp only at ha
 have nums:∀ {e:Ending} {w':O_},e=.returned (.tuple #[])/\(∃ v',ET w' X nm v' (s.zs++[(an:Int)]) s.wv q s.qs gn ge rk 0)/\Kept (λ j=>j=X\/v.ownBlock=some j) w w'->ak≠119->ak≠97->ak≠114 ->
   e=.returned (.tuple #[])/\(∃ v' q',ET w' X nm v' (NJ s ⟨ak,al,an,ad⟩).zs (NJ s ⟨ak,al,an,ad⟩).wv q' (NJ s ⟨ak,al,an,ad⟩).qs gn ge rk (NJ s ⟨ak,al,an,ad⟩).f)/\Kept (λ j=>j=X\/v.ownBlock=some j\/q.ownBlock=some j) w w':=λ ⟨h1,⟨v',h2⟩,h3⟩ n1 n2 n3=>by
  refine⟨h1,⟨v',q,?_⟩,h3.mono λ i hi h=>h.imp id .inl⟩
  unfold NJ
  simp only[n1,n2,n3,if_false]
  exact h2
 rcases ha with ⟨rfl,hd,h1⟩ | ⟨rfl,hd,h1⟩ | ⟨rfl,hd,h0,h1⟩ | ⟨rfl,hd,h1⟩ | ⟨rfl,hd,h1⟩
 ·exact(zD X nm v s.zs s.wv q s.qs gn ge rk s.f al an w h hd (PN _) h1 hz).mono λ e w' hp=>nums hp (by decide) (by decide) (by decide)
 ·exact(zA X nm v s.zs s.wv q s.qs gn ge rk s.f al an w h hd (PN _) h1 hz).mono λ e w' hp=>nums hp (by decide) (by decide) (by decide)
 ·exact(zB X nm v s.zs s.wv q s.qs gn ge rk s.f al an w h hd h0 h1 hz).mono λ e w' hp=>nums hp (by decide) (by decide) (by decide)
 ·exact(zF X nm v s.zs s.wv q s.qs gn ge rk s.f al an w h hd (PN _) h1 hz).mono λ e w' hp=>nums hp (by decide) (by decide) (by decide)
 ·exact(zG X nm v s.zs s.wv q s.qs gn ge rk s.f al an w h hd h1).mono λ e w' ⟨h1,h2,h3⟩=>⟨h1,⟨v,q,h2⟩,h3.mono λ i hi h=>h.imp id .inl⟩
theorem aJ (W:O_) (I:Nat) (l:List UInt8) (pos:Nat) (ty:TypeId) (c:UInt8) (h:W.heap[I]? = some (.stringIter (bs l) pos)) (hc:l[pos]? = some c) (ha:c.toNat<128) :
  ∃ W1,(Instr.next (.pointer (some ⟨I,0,none⟩)) true ty).run A_ W=.ok (.tuple #[.bool true,.int .i64 pos,.int .i32 (c.toNat:Int)]) W1/\W1.heap[I]? = some (.stringIter (bs l) (pos+1))/\Kept (·=I) W W1:=by
 have AI:pos<l.length:=(Pr.1 hc).1
 have hp:pos<(bs l).size:=by rw[Bb];exact AI
 have tc:(bs l)[pos]'hp=c:=by
  have:=(Pr.1 hc).2;rw[<- this];simp[bs];rfl
 have hd:=decode_ascii (bs l) pos hp (by rw[tc];exact ha)
 rw[tc]at hd
 have hI:I<W.heap.size:=(PS.1 h).1
 refine⟨{ W with heap:=W.heap.setIfInBounds I (.stringIter (bs l) (pos+1)) },?_,?_,⟨rfl,rfl,rfl,by simp,λ k hk hf=>?_⟩⟩
 ·simp only[Instr.next,getObj,setObj,Sem.run_bind,Sem.run,h,Result.andThen,hp,if_true,hd];simp[goInt,Sem.run,h,hI]
 ·simp[hI]
 ·have:¬ k=I:=hf;show (W.heap.setIfInBounds I _)[k]? = _;rw[Array.getElem?_setIfInBounds_ne (λ e=>this e.symm)]
theorem LK (W:O_) (I:Nat) (l:List UInt8) (ty:TypeId) (h:W.heap[I]? = some (.stringIter (bs l) l.length)) :
  (Instr.next (.pointer (some ⟨I,0,none⟩)) true ty).run A_ W=.ok (.tuple #[.bool false]) W:=by
 have:¬ l.length<(bs l).size:=by rw[Bb];omega
 simp[Instr.next,getObj,Sem.run,h,this]
theorem iI (s:St) (l:List Arg) (a:Arg):Df s (l++[a])=NJ (Df s l) a:=by simp[Df,List.foldl_append]
theorem iJ {s:St} {l:List Arg} {k:Nat} {a:Arg} (h:l[k]? = some a):Df s (l.take (k+1))=NJ (Df s (l.take k)) a:=by
 rw[Pm,h];exact iI _ _ _
theorem sF (s:St) (a:Arg):(NJ s a).zs.length<=s.zs.length+1:=by
 unfold NJ;split
 ·simp
 ·split
  ·simp
  ·split<;>simp
theorem nh (l:List Arg):∀ s:St,(Df s l).zs.length<=s.zs.length+l.length:=by
 induction l with
 | nil=>intro s;simp[Df]
 | cons a l ih =>
  intro s;have h1:=ih (NJ s a);have h2:=sF s a;have:Df s (a::l)=Df (NJ s a) l:=rfl;rw[this];simp;omega
structure RsS (w:O_) (X I:Nat) (nm kd:List UInt8) (D0:List Arg) (k:Nat) (gn:Int) (ge rk:Pa) (wr:O_):Prop where
 rd:∃ v q,ET wr X nm v (Df ⟨[],0,[],0⟩ (D0.take k)).zs (Df ⟨[],0,[],0⟩ (D0.take k)).wv q (Df ⟨[],0,[],0⟩ (D0.take k)).qs gn ge rk (Df ⟨[],0,[],0⟩ (D0.take k)).f
 it:wr.heap[I]? = some (.stringIter (bs kd) k)
 kept:Kept (λ j=>X<=j) w wr
 fine:(Df ⟨[],0,[],0⟩ (D0.take k)).f=0
theorem ke (X i cap:Nat) (A:Option Pc) (D0:List Arg) (gn:Int) (ge rk:Pa) (w:O_) (hi:i<13) (h0:i≠0) (h1:i≠1) (h9:i≠9) (hk:Cu i=D0.map (·.k)) (hall:∀ a∈D0,N8 a)
  (fl:∀ k,k<D0.length->(Df ⟨[],0,[],0⟩ (D0.take k)).f=0) (hT:B8 w A (D0.map (·.l))) (Bi:D0.length<=cap) (hlen:D0.length<=100) (h:ET w X (Am i) (.slice none 0 0) [] 0 (.slice none 0 0) [] gn ge rk 0) (hA:∀ a,A=some a->a.block<X) :
  Pb A_ 56 #[pt X,.slice A D0.length cap] w λ e w'=>e=.returned (.tuple #[])/\(∃ v q,ET w' X (Am i) v (Df ⟨[],0,[],0⟩ D0).zs (Df ⟨[],0,[],0⟩ D0).wv q (Df ⟨[],0,[],0⟩ D0).qs gn ge rk (Df ⟨[],0,[],0⟩ D0).f)/\Kept (λ j=>X<=j) w w':=by
 have eL:((bs (Am i)).toList==[76,79,65,68])=false:=by
  rw[Ax];exact beq_eq_false_iff_ne.2 (λ e=>h0 (Ib hi (by decide) (e.trans (show [76,79,65,68]=Am 0 from rfl))))
 have eB:((bs (Am i)).toList==[66,85,73,76,68])=false:=by
  rw[Ax];exact beq_eq_false_iff_ne.2 (λ e=>h1 (Ib hi (by decide) (e.trans (show [66,85,73,76,68]=Am 1 from rfl))))
 have hXl:=h.blk.lt
 obtain⟨L,hL⟩:=zn (D0.length)
 have HK:=zh (jB i L true w hi h9 (by rw[hk,Pu,hL];exact beq_self_eq_true _))
 have MW:(Cu i).length=L:=by rw[hk,Pu,hL]
 obtain⟨kd,rA⟩:=zn (Cu i)
 rw[rA]at HK hk MW
 have c0:=h.blk.cell 0
 simp at c0
 have HR:=zh h
 have HA:=zh (show _/\_/\_/\_/\_/\_/\_ from ⟨hk,hall,fl,hT,hA,hL,MW⟩)
 obtain⟨nm,D1⟩:=zn (Am i)
 rw[D1]at eL eB HK c0 HR ⊢
 rw[hL]at Bi hlen ⊢
 clear h hk hall fl hT hA hL rA D1 MW hi h0 h1 h9
 go_enter Tryz.func56,Tryz.ntmps56
 go_wp2_with fail
 go_step3
 go_wp2_with fail
 refine HK.out.mono ?_
 rintro e w1 ⟨rfl,k1⟩
 have HR1:=zh (HR.out.grew k1)
 have K1:=zh k1
 have hXl1:=k1.size
 clear HK HR k1 c0 eL eB
 go_wp2_with fail
 go_step3
 go_wp2_with fail
 obtain⟨W0,Fu⟩:=zn (w1.iter (bs kd) 0)
 have S0:PJ (RsS w X w1.heap.size nm kd D0 0 gn ge rk W0):=by
  have g1:Af w1 W0:=by rw[<- Fu];exact(zr _ _).alloc _
  refine⟨⟨_,_,HR1.out.grew g1⟩,by rw[<- Fu];exact World.iter_heap _ _ _,(Af.kept (K1.out.trans g1)),rfl⟩
 rw[Fu]
 have hIX:X<w1.heap.size:=by omega
 clear HR1 K1 Fu
 go_loopw [] (λ wr=>∃ (k:Nat),k<=L/\PJ (RsS w X w1.heap.size nm kd D0 k gn ge rk wr)) (λ wr=>L-wr.iterPos w1.heap.size)
 case atStart=>exact⟨0,by omega,S0⟩
 case round =>
  clear S0;obtain⟨k,hk,hS⟩:=hrel;have HPW:PJ (wr.iterPos w1.heap.size=k):=by show _=_;unfold Pz;rw[hS.out.it]
  by_cases AI:k<L
  ·as_aux_lemma =>
   obtain⟨a,ha⟩:=zx (l:=D0) (i:=k) (by rw[HA.out.2.2.2.2.2.1];exact AI);have Be:=HA.out.2.1 a (zm ha);have rA:kd[k]? = some a.k:=by rw[HA.out.1,Pn,ha];rfl
   have IW:(D0.map (·.l))[k]? = some a.l:=by rw[Pn,ha];rfl
   have h128:a.k.toNat<128:=by unfold N8 at Be;rcases Be with h | h | h | h | h<;>(rw[h.1];decide)
   obtain⟨W1,L7,hit,hkx⟩:=aJ wr w1.heap.size kd k 0 a.k hS.out.it rA h128;obtain⟨v,q,dx⟩:=hS.out.rd;have jn:=dx.other hkx hS.out.it (λ cs t r=>by simp);have hT:=HA.out.2.2.2.1;obtain⟨b,off,hAA,hb,hc⟩:=hT k _ IW;have hbX:b<X:=HA.out.2.2.2.2.1 _ hAA;have Ju:=(hS.out.kept.cell hc (by show ¬ X<=b;omega));have MV:=hkx.cell Ju (by show ¬ b=w1.heap.size;omega);subst hAA;have hTK:=zh (pX X nm v (Df ⟨[],0,[],0⟩ (D0.take k)) q gn ge rk a W1 jn Be (by have:=nh (D0.take k) ⟨[],0,[],0⟩;simp[Pp]at this;omega));rw[<- iJ ha]at hTK;have k0:(0:Int)<=(k:Int):=(by omega);have k1:(k:Int)<(L:Int):=(by omega);have k2:(L:Int)<=(cap:Int):=(by omega);have nI:∀ j,(j=X\/v.ownBlock=some j\/q.ownBlock=some j)->¬ j=w1.heap.size:=λ j h e=>by
    subst e;rcases h with h | h | h
    ·omega
    ·obtain⟨_,c,tc⟩:=Ap jn.own h;rw[hit]at tc;cases tc
    ·obtain⟨_,c,tc⟩:=Ap jn.ownq h;rw[hit]at tc;cases tc
   have hOW:PJ (∀ j,(j=X\/v.ownBlock=some j\/q.ownBlock=some j)->X<=j):=λ j h=>by
    rcases h with h | h | h
    ·omega
    ·have:=(jn.own.lt j h).1;omega
    ·have:=(jn.ownq.lt j h).1;omega
   obtain⟨cz,NN⟩:∃ z:Int,(a.k.toNat:Int)=z:=⟨_,rfl⟩;rw[NN]at L7 hTK;obtain⟨wd,hwd'⟩:∃ x,a.l=x:=⟨_,rfl⟩;rw[hwd']at MV hTK;obtain⟨fo,hfo⟩:=zn ((Df ⟨[],0,[],0⟩ (D0.take (k+1))).f);have HFO:=zh hfo;have wP:=Fo hit hkx nI hS.out.kept hIX;clear ha Be rA IW h128 hit hkx dx jn hT hb hbX hc Ju NN hwd' hfo hS nI;go_wp2_with fail;refine hTK.out.mono ?_;rintro e w3 ⟨rfl,⟨v',q',yD⟩,k3⟩;have h7:=yD.blk.cell 7;simp at h7;rw[HFO.out]at h7;have rV:=zh yD;have it3:PJ (w3.heap[w1.heap.size]? = some (.stringIter (bs kd) (k+1))):=(k3.block _ (PS.1 wP.out.1).1 (λ h=>wP.out.2.2.1 _ h rfl)).trans wP.out.1;have K3:PJ (Kept (λ j=>X<=j) w w3):=(wP.out.2.2.2.1.trans (wP.out.2.1.mono λ i hi h=>by have h:i=w1.heap.size:=h;omega)).trans (k3.mono λ i hi h=>hOW.out i h);clear hTK yD k3 L7 MV;by_cases hf:fo=0
   ·subst hf;have CH:PJ (RsS w X w1.heap.size nm kd D0 (k+1) gn ge rk w3):=⟨⟨v',q',rV.out⟩,it3.out,K3.out,HFO.out⟩;have BR:w3.iterPos w1.heap.size=k+1:=by unfold Pz;rw[it3.out]
    have zZ:=zh BR;clear it3 K3 rV wP BR;go_wp2_with fail;go_roundw
    case rel=>exact⟨k+1,by omega,CH⟩
    case measure=>rw[zZ.out,HPW.out];omega
   ·have hkL:k+1=L:=by
     apply Classical.byContradiction;intro Bn;have:=HA.out.2.2.1 (k+1) (by rw[HA.out.2.2.2.2.2.1];omega);rw[HFO.out]at this;exact hf this
    have hall:D0.take (k+1)=D0:=Pg (by rw[HA.out.2.2.2.2.2.1];omega);have hfb:(fo==0)=false:=beq_eq_false_iff_ne.2 hf;have hfb2:(fo != 0)=true:=by rw[bne_iff_ne];exact hf
    have zX:=BO rV.out K3.out;rw[hall]at zX;clear it3 K3 rV wP hall hkL hf;go_wp2_with fail;rw[Exit.noGoto_normal];go_end0;exact⟨rfl,⟨v',q',zX.out.1⟩,zX.out.2⟩
  ·as_aux_lemma =>
   obtain rfl:k=L:=(by omega);have L7:=LK wr w1.heap.size kd 0 (by rw[HA.out.2.2.2.2.2.2];exact hS.out.it);have hall:D0.take k=D0:=Pg (by rw[HA.out.2.2.2.2.2.1];omega);have zX:=BO hS.out.rd hS.out.kept;rw[hall]at zX;clear hS hall;go_wp2_with fail;rw[Exit.noGoto_normal];go_end0;exact⟨rfl,zX.out⟩
structure r7 (w:O_) (L k:Nat) (v:Pa) (wr:O_) (ls:List (List UInt8)):Prop where
 own:Bv wr w.heap.size v ls
 few:ls.length<=k
 short:∀ x∈ls,x.length<=L
 kept:Af w wr
theorem LJ (l:List UInt8) (hl:l.length<=500) (w:O_):Pb A_ 72 #[str l] w λ e w'=>∃ v f ls,e=.returned (.tuple #[v,i64 f])/\Bv w' w.heap.size v ls/\ls.length<=l.length+1/\(∀ x∈ls,x.length<=l.length)/\Af w w':=by
 obtain⟨L,hL⟩:=zn (l.length);have Da:(bs l).size=L:=(by rw[Bb,hL]);obtain⟨i0,hi,BZ,BG,B4⟩:=info_parts Cx;have H0:=zh hL;rw[hL]at hl ⊢;clear hL;have E0:∀ W,Bv W w.heap.size (.slice none 0 0) []:=λ W=>⟨rfl,.inl ⟨rfl,rfl⟩⟩;have HE0:=zh E0;have S0:PJ (∃ ls,r7 w L 0 (.slice none 0 0) w ls):=⟨[],E0 w,zl _,λ x hx=>(by cases hx),zr _ _⟩;clear E0;go_enter Tryz.func72,Tryz.ntmps72;go_wp2_with fail;go_loopw [4,5,6] (λ v4 fr i wr=>∃ k m:Nat,k<=L+1/\m<=k/\i=.int .i64 k/\fr=.int .i64 m/\PJ (∃ ls,r7 w L k v4 wr ls)) (λ _ _ i _=>L+1-(intOf i).toNat)
 case atStart=>exact⟨0,0,by omega,by omega,rfl,rfl,S0⟩
 case round =>
  clear S0;obtain⟨k,m,hk,hm,rfl,rfl,hS⟩:=hrel;by_cases hle:k<=L
  ·have k9:decide ((k:Int)<=(L:Int))=true:=zt (by omega);by_cases AI:k<L
   ·have k0:(0:Int)<=(k:Int):=(by omega);have k1:(k:Int)<(L:Int):=(by omega);obtain⟨c,hc⟩:=zx (l:=l) (i:=k) (by rw[H0.out];exact AI);have LZ:=Cr l k hc;obtain⟨sg,IV⟩:=zn (decide (33<=(c.toNat:Int)/\(c.toNat:Int)<=126));have eM:=zh (λ W=>I3 (c.toNat:Int) sg IV W);clear hc IV;cases sg
    ·by_cases b1:(c.toNat:Int)=32
     ·have e1:((c.toNat:Int)==32)=true:=(by simpa using b1);have e1':((c.toNat:Int) != 32)=false:=(by simpa using b1);clear b1;go_wp2_with fail;refine(eM.out _).mono ?_;rintro e w9 ⟨rfl,rfl⟩;clear eM;by_cases hgt:m<k
      ·have d9:decide ((m:Int)<(k:Int))=true:=zt (by omega);obtain⟨ls,hW⟩:=hS.out;have lF:=Ff l m k (by omega) (by rw[H0.out];omega);obtain⟨wd,IW⟩:=zn ((l.drop m).take (k-m));rw[IW]at lF;have oQ:wd.length<=L:=by rw[<- IW];simp;omega
       have hN:PJ (Bv (wr.alloc (.cells #[str wd] 9)) w.heap.size u4 ls/\Af w (wr.alloc (.cells #[str wd] 9))/\(∀ j u,([str wd]:List Pa)[j]? = some u->(wr.alloc (.cells #[str wd] 9)).cell? ((⟨wr.heap.size,0,none⟩:Pc).add j)=some u)):=⟨Af.own (DL _ _ _) hW.own,hW.kept.trans (DL _ _ _),Pw (heap_alloc_new _ (.cells #[str wd] 9))⟩;have tA:w.heap.size<=(wr.alloc (.cells #[str wd] 9)).heap.size:=hN.out.2.1.size;have Fy:ls.length<=501:=PM hW.few (by omega);have HW:=zh hW;have h1w:∀ u∈([str wd]:List Pa),u.oneCell'=true:=λ u hu=>by
        rw[Ph.1 hu]
        rfl
       have HLw:=zh oQ;clear IW hW hS oQ;go_wp2_with (at_builtin;refine wpList_append_own _ rfl (.tmp 45) (.tmp 50) 40 (by rfl) w.heap.size 9 i0 (.string ⟨#[]⟩) 1 16 K_ hi BZ BG B4 (by rfl) (by omega) _ _ _ rfl hN.out.1 ⟨wr.heap.size,0,none⟩ 1 1 [str wd] rfl (by rfl) hN.out.2.2 h1w (by unfold maxLen;omega) (by omega) (by omega) ?_;intro v' w5 A8 Cn _);have S':PJ (∃ ls,r7 w L (k+1) v' w5 ls):=⟨ls++[wd],by
        unfold Bv
        simpa using A8,by have:=HW.out.few;simp;omega,λ x hx=>by
        rcases Pq.1 hx with hx | hx
        ·exact HW.out.short x hx
        ·rw[Ph.1 hx];exact HLw.out,hN.out.2.1.grown Cn λ j hj=>.inr (Ap hN.out.1 hj).1⟩
       clear A8 Cn hN HW;go_wp2_with fail;go_roundw
       case rel=>exact⟨k+1,k+1,by omega,by omega,by go_num,by go_num,S'⟩
       case measure=>simp[intOf];omega
      ·have d9:decide ((m:Int)<(k:Int))=false:=zf (by omega);have S':PJ (∃ ls,r7 w L (k+1) u4 wr ls):=hS.out.imp λ ls h=>{ h with few:=PL h.few };clear hS;go_wp2_with fail;go_roundw
       case rel=>exact⟨k+1,k+1,by omega,by omega,by go_num,by go_num,S'⟩
       case measure=>simp[intOf];omega
     ·have e1:((c.toNat:Int)==32)=false:=(by simpa using b1);have e1':((c.toNat:Int) != 32)=true:=(by simpa using b1);by_cases b2:(c.toNat:Int)=9
      ·have e2:((c.toNat:Int)==9)=true:=(by simpa using b2);have e2':((c.toNat:Int) != 9)=false:=(by simpa using b2);clear b1 b2;go_wp2_with fail;refine(eM.out _).mono ?_;rintro e w9 ⟨rfl,rfl⟩;clear eM;by_cases hgt:m<k
       ·have d9:decide ((m:Int)<(k:Int))=true:=zt (by omega);obtain⟨ls,hW⟩:=hS.out;have lF:=Ff l m k (by omega) (by rw[H0.out];omega);obtain⟨wd,IW⟩:=zn ((l.drop m).take (k-m));rw[IW]at lF;have oQ:wd.length<=L:=by rw[<- IW];simp;omega
        have hN:PJ (Bv (wr.alloc (.cells #[str wd] 9)) w.heap.size u4 ls/\Af w (wr.alloc (.cells #[str wd] 9))/\(∀ j u,([str wd]:List Pa)[j]? = some u->(wr.alloc (.cells #[str wd] 9)).cell? ((⟨wr.heap.size,0,none⟩:Pc).add j)=some u)):=⟨Af.own (DL _ _ _) hW.own,hW.kept.trans (DL _ _ _),Pw (heap_alloc_new _ (.cells #[str wd] 9))⟩;have tA:w.heap.size<=(wr.alloc (.cells #[str wd] 9)).heap.size:=hN.out.2.1.size;have Fy:ls.length<=501:=PM hW.few (by omega);have HW:=zh hW;have h1w:∀ u∈([str wd]:List Pa),u.oneCell'=true:=λ u hu=>by
         rw[Ph.1 hu]
         rfl
        have HLw:=zh oQ;clear IW hW hS oQ;go_wp2_with (at_builtin;refine wpList_append_own _ rfl (.tmp 45) (.tmp 50) 40 (by rfl) w.heap.size 9 i0 (.string ⟨#[]⟩) 1 16 K_ hi BZ BG B4 (by rfl) (by omega) _ _ _ rfl hN.out.1 ⟨wr.heap.size,0,none⟩ 1 1 [str wd] rfl (by rfl) hN.out.2.2 h1w (by unfold maxLen;omega) (by omega) (by omega) ?_;intro v' w5 A8 Cn _);have S':PJ (∃ ls,r7 w L (k+1) v' w5 ls):=⟨ls++[wd],by
         unfold Bv
         simpa using A8,by have:=HW.out.few;simp;omega,λ x hx=>by
         rcases Pq.1 hx with hx | hx
         ·exact HW.out.short x hx
         ·rw[Ph.1 hx];exact HLw.out,hN.out.2.1.grown Cn λ j hj=>.inr (Ap hN.out.1 hj).1⟩
        clear A8 Cn hN HW;go_wp2_with fail;go_roundw
        case rel=>exact⟨k+1,k+1,by omega,by omega,by go_num,by go_num,S'⟩
        case measure=>simp[intOf];omega
       ·have d9:decide ((m:Int)<(k:Int))=false:=zf (by omega);have S':PJ (∃ ls,r7 w L (k+1) u4 wr ls):=hS.out.imp λ ls h=>{ h with few:=PL h.few };clear hS;go_wp2_with fail;go_roundw
        case rel=>exact⟨k+1,k+1,by omega,by omega,by go_num,by go_num,S'⟩
        case measure=>simp[intOf];omega
      ·have e2:((c.toNat:Int)==9)=false:=(by simpa using b2);have e2':((c.toNat:Int) != 9)=true:=(by simpa using b2);have HF:=zh (show Af w wr from hS.out.elim λ _ h=>h.kept);clear b1 b2 hS;go_wp2_with fail;refine(eM.out _).mono ?_;rintro e w9 ⟨rfl,rfl⟩;clear eM;go_wp2_with fail;go_ret2;exact⟨_,_,[],rfl,HE0.out _,by simp,λ x hx=>(by cases hx),HF.out⟩
    ·have S':PJ (∃ ls,r7 w L (k+1) u4 wr ls):=hS.out.imp λ ls h=>{ h with few:=PL h.few };clear hS;go_wp2_with fail;refine(eM.out _).mono ?_;rintro e w9 ⟨rfl,rfl⟩;clear eM;go_wp2_with fail;go_roundw
     case rel=>exact⟨k+1,m,by omega,by omega,by go_num,rfl,S'⟩
     case measure=>simp[intOf];omega
   ·obtain rfl:k=L:=(by omega);have k1:decide ((k:Int)<(k:Int))=false:=zf (by omega);by_cases hgt:m<k
    ·have d9:decide ((m:Int)<(k:Int))=true:=zt (by omega);obtain⟨ls,hW⟩:=hS.out;have lF:=Ff l m k (by omega) (by rw[H0.out];omega);obtain⟨wd,IW⟩:=zn ((l.drop m).take (k-m));rw[IW]at lF;have oQ:wd.length<=k:=by rw[<- IW];simp;omega
     have hN:PJ (Bv (wr.alloc (.cells #[str wd] 9)) w.heap.size u4 ls/\Af w (wr.alloc (.cells #[str wd] 9))/\(∀ j u,([str wd]:List Pa)[j]? = some u->(wr.alloc (.cells #[str wd] 9)).cell? ((⟨wr.heap.size,0,none⟩:Pc).add j)=some u)):=⟨Af.own (DL _ _ _) hW.own,hW.kept.trans (DL _ _ _),Pw (heap_alloc_new _ (.cells #[str wd] 9))⟩;have tA:w.heap.size<=(wr.alloc (.cells #[str wd] 9)).heap.size:=hN.out.2.1.size;have Fy:ls.length<=501:=PM hW.few (by omega);have HW:=zh hW;have h1w:∀ u∈([str wd]:List Pa),u.oneCell'=true:=λ u hu=>by
      rw[Ph.1 hu]
      rfl
     have HLw:=zh oQ;clear IW hW hS oQ;go_wp2_with (at_builtin;refine wpList_append_own _ rfl (.tmp 45) (.tmp 50) 40 (by rfl) w.heap.size 9 i0 (.string ⟨#[]⟩) 1 16 K_ hi BZ BG B4 (by rfl) (by omega) _ _ _ rfl hN.out.1 ⟨wr.heap.size,0,none⟩ 1 1 [str wd] rfl (by rfl) hN.out.2.2 h1w (by unfold maxLen;omega) (by omega) (by omega) ?_;intro v' w5 A8 Cn _);have S':PJ (∃ ls,r7 w k (k+1) v' w5 ls):=⟨ls++[wd],by
      unfold Bv
      simpa using A8,by have:=HW.out.few;simp;omega,λ x hx=>by
      rcases Pq.1 hx with hx | hx
      ·exact HW.out.short x hx
      ·rw[Ph.1 hx];exact HLw.out,hN.out.2.1.grown Cn λ j hj=>.inr (Ap hN.out.1 hj).1⟩
     clear A8 Cn hN HW;go_wp2_with fail;go_roundw
     case rel=>exact⟨k+1,k+1,by omega,by omega,by go_num,by go_num,S'⟩
     case measure=>simp[intOf]<;>omega
    ·have d9:decide ((m:Int)<(k:Int))=false:=zf (by omega);have S':PJ (∃ ls,r7 w k (k+1) u4 wr ls):=hS.out.imp λ ls h=>{ h with few:=PL h.few };clear hS;go_wp2_with fail;go_roundw
     case rel=>exact⟨k+1,k+1,by omega,by omega,by go_num,by go_num,S'⟩
     case measure=>simp[intOf]<;>omega
  ·obtain⟨ls,hW⟩:=hS.out;have k9:decide ((k:Int)<=(L:Int))=false:=zf (by omega);have Fy:ls.length<=L+1:=by have:=hW.few;omega
   obtain⟨A,cc,rfl⟩:=At hW.own;have HF:=Em hW.own Fy hW.short hW.kept;obtain⟨n9,hn9⟩:=zn (ls.length);have HN9:=zh hn9;rw[hn9]at HF Fy ⊢;have d8:decide (16384<(n9:Int))=false:=zf (by omega);clear hW hS hn9;go_wp2_with fail;go_ret2;exact⟨_,_,ls,rfl,HF.out.1,by rw[HN9.out];exact HF.out.2.1,HF.out.2.2.1,HF.out.2.2.2⟩
def rX (w:O_) (e:Ending) (w':O_):Prop:=∃ n f:Int,e=.returned (.tuple #[u64 n,i64 f])/\w=w'
theorem ax (a:Int) (w:O_):Pb A_ 171 #[u64 a,u64 10] w (rX w):=by
 go_enter Tryz.func171,Tryz.ntmps171;go_wp2_with fail;all_goals
  go_ret2;exact⟨_,_,rfl,rfl⟩
theorem au (a b:Int) (w:O_):Pb A_ 172 #[u64 a,u64 b] w (rX w):=by
 go_enter Tryz.func172,Tryz.ntmps172;go_wp2_with fail;all_goals
  go_ret2;exact⟨_,_,rfl,rfl⟩
theorem CS (l:List UInt8) (hl:l.length<=100000) (w:O_):Pb A_ 118 #[str l] w (rX w):=by
 have HM:=zh ax;have HA:=zh au;obtain⟨L,hL⟩:=zn (l.length);have Da:(bs l).size=L:=(by rw[Bb,hL]);have HL:=zh hL;have hr:PJ (∀ (W:O_),rX W (.returned (.tuple #[u64 0,i64 3])) W):=zh λ W=>⟨_,_,rfl,rfl⟩;by_cases hz:L=0
 ·subst hz;clear hl hL;go_enter Tryz.func118,Tryz.ntmps118;go_wp2_with fail;go_ret2;exact hr.out _
 ·obtain⟨c0,J4⟩:=zx (l:=l) (i:=0) (by omega);have sY:=Cr l 0 J4;have L1:(0:Int)<(L:Int):=(by omega);have L2:¬ (L:Int)=0:=(by omega);have L3:(L:Int)<=100000:=(by omega);clear hL J4;go_enter Tryz.func118,Tryz.ntmps118;go_wp2_with fail;all_goals first
   | (go_ret2;exact hr.out _)
   | skip
  all_goals
   go_loop [2,3,4] (λ u2 u3 i=>∃ k:Nat,k<=L/\i=.int .i64 k) (λ u2 u3 i=>L-(intOf i).toNat)
   case atStart=>exact⟨0,by omega,rfl⟩
   case round =>
    obtain⟨k,hk,rfl⟩:=hrel;by_cases AI:k<L
    ·have k0:(0:Int)<=(k:Int):=(by omega);have k1:(k:Int)<(L:Int):=(by omega);obtain⟨c,hc⟩:=zx (l:=l) (i:=k) (by rw[HL.out];exact AI);have LZ:=Cr l k hc;clear hc;go_wp2_with fail;all_goals first
      | (go_ret2;exact hr.out _)
      | (go_round
         case rel=>first | exact⟨k+1,by omega,by go_num⟩ | exact⟨_,_,.int .i64 ((k:Int)+1),⟨k+1,by omega,by go_num⟩,rfl,rfl,rfl⟩
         case measure=>simp[intOf];omega)
    ·obtain rfl:k=L:=(by omega);go_wp2_with fail;go_loop [2,3,5,6,7,8,9,10] (λ u2 u3 n i u7 u8 u9 kV=>∃ (j:Nat) (z:Int),j<=k/\i=.int .i64 j/\n=.int .u64 z) (λ u2 u3 n i u7 u8 u9 kV=>k-(intOf i).toNat)
     case atStart=>exact⟨0,0,by omega,rfl,rfl⟩
     case round =>
      obtain⟨j,z,hj,rfl,rfl⟩:=hrel;by_cases AI:j<k
      ·have k0:(0:Int)<=(j:Int):=(by omega);have k1:(j:Int)<(k:Int):=(by omega);obtain⟨c,hc⟩:=zx (l:=l) (i:=j) (by rw[HL.out];exact AI);have LZ:=Cr l j hc;clear hc;go_wp2_with fail;refine(HM.out _ _).mono ?_;rintro e w9 ⟨n1,f1,rfl,rfl⟩;go_wp2_with fail
       ·go_ret2;exact⟨_,_,rfl,rfl⟩
       ·refine(HA.out _ _ _).mono ?_;rintro e w9 ⟨n2,f2,rfl,rfl⟩;go_wp2_with fail
        ·go_ret2;exact⟨_,_,rfl,rfl⟩
        ·go_round
         case rel=>exact⟨j+1,_,by omega,by go_num,rfl⟩
         case measure=>simp[intOf];omega
      ·obtain rfl:j=k:=(by omega);go_wp2_with fail;go_ret2;exact⟨_,_,rfl,rfl⟩
theorem DK {w:O_} {T:Nat} {t:TypeId} {p0 p1:Pa} (h:Ao w T t #[p0,p1]) (a b:Pa) :
  w.cell? ⟨T,0,none⟩=some p0/\w.cell? ⟨T,1,none⟩=some p1/\w.frozen? ⟨T,0,none⟩=false/\(w.setCell ⟨T,0,none⟩ a).frozen? ⟨T,1,none⟩=false/\((w.setCell ⟨T,0,none⟩ a).setCell ⟨T,1,none⟩ b).cell? ⟨T,0,none⟩=some a/\((w.setCell ⟨T,0,none⟩ a).setCell ⟨T,1,none⟩ b).cell? ⟨T,1,none⟩=some b:=by
 have h1:=h.set 0 a
 have h2:=h1.set 1 b
 have r0:=h2.cell 0
 have r1:=h2.cell 1
 have y0:=h.cell 0
 have y1:=h.cell 1
 simp at r0 r1 y0 y1
 exact⟨y0,y1,h.frozen 0,h1.frozen 1,r0,r1⟩
def I6 (w:O_) (B:Nat) (v:Pa) (k:Nat):Prop:=∃ es:List AJ,AP w B v es/\es.length=k/3
theorem I6.kept {F:Nat->Prop} {w w':O_} {B:Nat} {v:Pa} {k:Nat} (h:I6 w B v k) (hk:Kept F w w') (hF:∀ j,v.ownBlock=some j->¬ F j):I6 w' B v k:=h.imp λ _ h=>⟨Kept.own hk h.1 hF,h.2⟩
theorem I6.grew {w w':O_} {B:Nat} {v:Pa} {k:Nat} (h:I6 w B v k) (hk:Af w w'):I6 w' B v k:=h.kept hk λ _ _ h=>h
def kl (es:List AJ) (k:Nat) (x:Int):List AJ:=es.set k ((es.getD k (0,0,0)).1,x,(es.getD k (0,0,0)).2.2)
theorem I4 (es:List AJ) (k:Nat) (x:Int):(kl es k x).length=es.length:=by simp[kl]
theorem en (es:List AJ) (k:Nat) (x:Int) (h:k<es.length):(cellsOf es).set (k*3+1) (i64 x)=cellsOf (kl es k x):=by
 have hd:es=es.take k++es[k]::es.drop (k+1):=(by rw[<- List.drop_eq_getElem_cons h,List.take_append_drop]);have hk:(es.take k).length=k:=by simp;omega
 have hs:kl es k x=es.take k++(es[k].1,x,es[k].2.2)::es.drop (k+1):=by
  unfold kl;rw[List.getD_eq_getElem?_getD,zq h,List.set_eq_take_append_cons_drop,if_pos h];rfl
 rw[hs];conv=>lhs;rw[hd]
 have hl:=Cv (es.take k);rw[hk]at hl;rw[Ca,Ca,List.set_append_right _ _ (by omega),hl,Nat.add_sub_cancel_left];rfl
theorem I6.setTo {w:O_} {B g L c m:Nat} {es:List AJ} (h:AP w B (.slice (some ⟨g,0,none⟩) L c) es) (hL:es.length=L) (hm:m<L) (x:Int):AP (w.setCell ⟨g,m*3+1,none⟩ (i64 x)) B (.slice (some ⟨g,0,none⟩) L c) (kl es m x):=by
 subst hL;have h1:=(PG h (m*3+1) (i64 x)).1;rw[en es m x hm]at h1;unfold AP;rw[I4];exact h1
theorem I6.setWo {w:O_} {B g L c m:Nat} {es:List AJ} (h:AP w B (.slice (some ⟨g,0,none⟩) L c) es) (hL:es.length=L) (hm:m<L) (x:Int):AP (w.setCell ⟨g,m*3+2,none⟩ (u64 x)) B (.slice (some ⟨g,0,none⟩) L c) (Cl es m x):=by
 subst hL;have h1:=(PG h (m*3+2) (u64 x)).1;rw[Fg es m x hm]at h1;unfold AP;rw[BF];exact h1
theorem C7 {w:O_} {B n size T:Nat} {e t:TypeId} {v:Pa} {xs:List Pa} {cs:Array Pa} (h:w.ownsRow B e size v n xs) (hb:Ao w T t cs) (Bn:t≠e):¬ v.ownBlock=some T:=λ k=>by
 obtain⟨_,c1,g1⟩:=Ap h k;have:=(show w.heap[T]? = _ from hb).symm.trans g1;cases this;exact Bn rfl
theorem KE (N:Int) (A:Option Pc) (L c k:Nat) (p n:Int) (hk:k<=1000) (w:O_):Pb A_ 169 #[.agg #[i64 N,.slice A L c],i64 k,i64 p,u64 n] w λ e w'=>∃ f:Int,e=.returned (i64 f)/\Af w w':=by
 have g1:PJ (Af w (w.alloc (.cells #[i64 N,.slice A L c] 24))):=DL _ _ _;by_cases k0:k=0
 ·subst k0;obtain⟨b1,d1⟩:=zn (decide (n<1));obtain⟨b2,d2⟩:=zn (decide (4096<n));cases b1<;>cases b2 <;>
  ·go_enter H_,E_;go_wp2_with fail;go_ret;exact⟨_,rfl,g1.out⟩
 by_cases k1:k=1
 ·subst k1;obtain⟨b1,d1⟩:=zn (decide (16384<n));cases b1 <;>
  ·go_enter H_,E_;go_wp2_with fail;go_ret;exact⟨_,rfl,g1.out⟩
 have e0:((k:Int)==0)=false:=(by simpa using k0);have e1:((k:Int)==1)=false:=by
  have:¬ (k:Int)=1:=(by omega);simpa using this
 have x0:(2:Int)<=(k:Int):=(by omega);have x1:(k:Int)<=1000:=(by omega);have hm:((k:Int)-2).tmod 3=0\/((k:Int)-2).tmod 3=1\/((k:Int)-2).tmod 3=2:=by
  rw[PK (by omega)];omega
 clear k0 k1 hk;rcases hm with hr | hr | hr
 ·obtain⟨b1,d1⟩:=zn (decide (PA.wrap N<=n));cases b1 <;>
  ·go_enter H_,E_;go_wp2_with fail;go_ret;exact⟨_,rfl,g1.out⟩
 ·obtain⟨b1,d1⟩:=zn (decide (PA.wrap N<=n));obtain⟨b2,d2⟩:=zn ((n==PA.wrap p));cases b1<;>cases b2 <;>
  ·go_enter H_,E_;go_wp2_with fail;go_ret;exact⟨_,rfl,g1.out⟩
 ·obtain⟨b1,d1⟩:=zn (decide (n<1));obtain⟨b2,d2⟩:=zn (decide (4294967296<n));cases b1<;>cases b2 <;>
  ·go_enter H_,E_;go_wp2_with fail;go_ret;exact⟨_,rfl,g1.out⟩
theorem ER {w w5:O_} {T B k n5 c5:Nat} {A5:Option Pc} {N:Int} {v:Pa} {es:List AJ} (hT:w.heap.size=T) (k5:Kept (λ j=>v.ownBlock=some j) w w5) (b1:Ao w5 (T+1) 24 #[i64 0,.slice none 0 0]) (he:AP w5 B (.slice A5 n5 c5) es) (hl:es.length=(k+1)/3) :
  w5.cell? ⟨T+1,0,none⟩=some (i64 0)/\w5.cell? ⟨T+1,1,none⟩=some (.slice none 0 0)/\w5.frozen? ⟨T+1,0,none⟩=false/\(w5.setCell ⟨T+1,0,none⟩ (i64 N)).frozen? ⟨T+1,1,none⟩=false/\((w5.setCell ⟨T+1,0,none⟩ (i64 N)).setCell ⟨T+1,1,none⟩ (.slice A5 n5 c5)).cell? ⟨T+1,0,none⟩=some (i64 N)/\((w5.setCell ⟨T+1,0,none⟩ (i64 N)).setCell ⟨T+1,1,none⟩ (.slice A5 n5 c5)).cell? ⟨T+1,1,none⟩=some (.slice A5 n5 c5) /\
  PJ (∃ N' A' L' c',(Ending.returned (.agg #[i64 N,.slice A5 n5 c5]))=.returned (.agg #[i64 N',.slice A' L' c'])/\I6 ((w5.setCell ⟨T+1,0,none⟩ (i64 N)).setCell ⟨T+1,1,none⟩ (.slice A5 n5 c5)) B (.slice A' L' c') (k+1)/\Kept (λ j=>v.ownBlock=some j) w ((w5.setCell ⟨T+1,0,none⟩ (i64 N)).setCell ⟨T+1,1,none⟩ (.slice A5 n5 c5))):=by
 obtain⟨x0,x1,x2,x3,r0,r1⟩:=DK b1 (i64 N) (.slice A5 n5 c5)
 refine⟨x0,x1,x2,x3,r0,r1,_,_,_,_,rfl,⟨es,?_,hl⟩,?_⟩
 ·exact Kept.own (((zr (·=T+1) w5).setCell (p:=⟨T+1,0,none⟩) (.inl rfl) _).setCell (p:=⟨T+1,1,none⟩) (.inl rfl) _) he λ j hj h=>by
   obtain rfl:j=T+1:=h;exact C7 he b1 (by decide) hj
 ·exact(k5.setCell (p:=⟨T+1,0,none⟩) (.inr (by show w.heap.size<=T+1;omega)) _).setCell (p:=⟨T+1,1,none⟩) (.inr (by show w.heap.size<=T+1;omega)) _
theorem kQ {w w1 w5:O_} {T B L c k n5 c5:Nat} {A A5:Option Pc} {N n':Int} {es:List AJ} {o:Obj} (hT:w.heap.size=T) (g1:Af w w1) (b0:Ao w1 T 24 #[i64 N,.slice A L c]) (b1:Ao w1 (T+1) 24 #[i64 0,.slice none 0 0]) (AI:∀ j,(Pd A L c).ownBlock=some j->j<T) (hl:es.length=k/3) (hr:(k-2)%3=0) (Ka:2<=k)
  (ho:w5.ownsRow B 65 3 (.slice A5 n5 c5) (es.length+1) (cellsOf es++cellsOf [(n',0,0)])) (Cn:(w1.alloc o).grownBy w5 (Pd A L c).ownBlock) :
  w5.cell? ⟨T,0,none⟩=some (i64 N)/\w5.cell? ⟨T,1,none⟩=some (.slice A L c)/\w5.frozen? ⟨T,1,none⟩=false/\(w5.setCell ⟨T,1,none⟩ (.slice A5 n5 c5)).cell? ⟨T,0,none⟩=some (i64 N)/\(w5.setCell ⟨T,1,none⟩ (.slice A5 n5 c5)).cell? ⟨T,1,none⟩=some (.slice A5 n5 c5)/\w5.cell? ⟨T+1,0,none⟩=some (i64 0)/\w5.cell? ⟨T+1,1,none⟩=some (.slice none 0 0)/\w5.frozen? ⟨T+1,0,none⟩=false/\w5.frozen? ⟨T+1,1,none⟩=false/\PJ (Ao (w5.setCell ⟨T,1,none⟩ (.slice A5 n5 c5)) (T+1) 24 #[i64 0,.slice none 0 0]/\AP (w5.setCell ⟨T,1,none⟩ (.slice A5 n5 c5)) B (.slice A5 n5 c5) (es++[(n',0,0)])/\(es++[(n',(0:Int),(0:Int))]).length=(k+1)/3/\Kept (λ j=>(Pd A L c).ownBlock=some j) w (w5.setCell ⟨T,1,none⟩ (.slice A5 n5 c5))):=by
 have h0:=(b0.alloc o).grown Cn (λ h=>by have:=AI T h.symm;omega)
 have h1:=(b1.alloc o).grown Cn (λ h=>by have:=AI (T+1) h.symm;omega)
 have q:=h0.set 1 (.slice A5 n5 c5)
 have y0:=h0.cell 0
 have y1:=h0.cell 1
 have z0:=q.cell 0
 have z1:=q.cell 1
 have v0:=h1.cell 0
 have v1:=h1.cell 1
 simp at y0 y1 z0 z1 v0 v1
 refine⟨y0,y1,h0.frozen 1,z0,z1,v0,v1,h1.frozen 0,h1.frozen 1,h1.far (by show T+1≠T;omega) _,?_,by rw[Pf];simp;omega,?_⟩
 ·have h2:AP w5 B (.slice A5 n5 c5) (es++[(n',0,0)]):=by
   unfold AP;rw[Pf,Ca];exact ho
  exact Kept.own ((zr (·=T) w5).setCell (p:=⟨T,1,none⟩) (.inl rfl) _) h2 λ j hj h=>by
   obtain rfl:j=T:=h;exact C7 h2 h0 (by decide) hj
 ·exact((Af.kept (g1.trans (DL _ _ _))).grown Cn (λ j hj=>.inl hj)).setCell (p:=⟨T,1,none⟩) (.inr (by show w.heap.size<=T;omega)) _
theorem LH (N:Int) (v:Pa) (B k:Nat) (n:Int) (w:O_) (h:I6 w B v k) (hB:B<=w.heap.size) (hk:k<=1000) :
  Pb A_ 170 #[.agg #[i64 N,v],i64 k,u64 n] w λ e w'=>∃ N' A' L' c',e=.returned (.agg #[i64 N',.slice A' L' c'])/\I6 w' B (.slice A' L' c') (k+1)/\Kept (λ j=>v.ownBlock=some j) w w':=by
 obtain⟨es,he,hl⟩:=h
 obtain⟨A,c,rfl⟩:=At he
 obtain⟨i0,hi,BZ,BG,B4⟩:=info_parts F4
 obtain⟨L,hL⟩:=zn (es.length)
 obtain⟨T,hT⟩:=zn (w.heap.size)
 obtain⟨w1,AT⟩:=zn ((w.alloc (.cells #[i64 N,.slice A L c] 24)).alloc (.cells #[i64 0,.slice none 0 0] 24))
 have g1:Af w w1:=by rw[<- AT];exact((zr _ _).alloc _).alloc _
 have b0:Ao w1 T 24 #[i64 N,.slice A L c]:=by rw[<- AT,<-hT];exact(zv w _ _).alloc _
 have b1:Ao w1 (T+1) 24 #[i64 0,.slice none 0 0]:=by
  rw[<- AT,<-hT];have h:=zv (w.alloc (.cells #[i64 N,.slice A L c] 24)) 24 #[i64 0,.slice none 0 0];rw[Px]at h;exact h
 obtain⟨c0,c1⟩:=BP b0
 have f0:=b0.frozen 0
 have f1:=b0.frozen 1
 rw[hL]at he ⊢
 have Fw:PJ (AP w1 B (.slice A L c) es):=Af.own g1 he
 have AI:∀ j,(Pd A L c).ownBlock=some j->j<T:=λ j hj=>by rw[<- hT];exact(PH he j hj).2
 obtain⟨n',rB⟩:∃ n',PB.wrap n=n':=⟨_,rfl⟩
 have e0:(w.alloc (.cells #[.int .i64 N,.slice A L c] 24)).alloc (.cells #[.int .i64 0,.slice none 0 0] 24)=w1:=AT
 have HB:=Fo b0 b1 g1 AI hl
 clear b0 b1 g1 AI AT he hl
 by_cases k0:k=0
 ·subst k0;have q1:=HB.out.1.set 0 (i64 n');have q2:=HB.out.2.1.far (p:=⟨T,0,none⟩) (by show T+1≠T;omega) (i64 n');have kT:Kept (λ j=>j=T) w1 (w1.setCell ⟨T,0,none⟩ (i64 n')):=(zr (λ j=>j=T) _).setCell (p:=⟨T,0,none⟩) (.inl rfl) _;obtain⟨x0,x1,x2,x3,r0,r1,HF⟩:=ER (k:=0) (N:=n') (v:=.slice A L c) hT ((Af.kept HB.out.2.2.1).setCell (p:=⟨T,0,none⟩) (.inr (by show w.heap.size<=T;omega)) _) q2 (Kept.own kT Fw.out (λ j hj h=>by
   have:=HB.out.2.2.2.1 j hj
   have h':j=T:=h
   omega)) (by have:=HB.out.2.2.2.2;omega)
  obtain⟨y0,y1⟩:=BP q1;clear q1 q2 kT;go_enter I_,F_;go_wp2_with fail;exact zy (v:=.agg #[i64 n',.slice A L c]) (by simp[results,D_,go_sem,r0,r1]) rfl HF.out
 by_cases k1:k=1
 ·subst k1;obtain⟨x0,x1,x2,x3,r0,r1,HF⟩:=ER (k:=1) (N:=N) (v:=.slice A L c) hT (Af.kept HB.out.2.2.1) HB.out.2.1 Fw.out (by have:=HB.out.2.2.2.2;omega);go_enter I_,F_;go_wp2_with fail;exact zy (v:=.agg #[i64 N,.slice A L c]) (by simp[results,D_,go_sem,r0,r1]) rfl HF.out
 have e0:((k:Int)==0)=false:=by simpa using k0
 have e1:((k:Int)==1)=false:=by
  have:¬ (k:Int)=1:=(by omega);simpa using this
 have x0:(2:Int)<=(k:Int):=by omega
 have x1:(k:Int)<=1000:=by omega
 have hm:((k:Int)-2).tmod 3=((k-2)%3:Nat):=by
  rw[PK (by omega)];omega
 have hLk:=HB.out.2.2.2.2
 rcases(by omega:(k-2)%3=0\/(k-2)%3=1\/(k-2)%3=2) with hr | hr | hr
 ·rw[hr]at hm;have HA:PJ (AP (w1.alloc (.cells #[i64 n',i64 0,u64 0] 65)) B (.slice A L c) es/\(∀ j u,(cellsOf [(n',0,0)])[j]? = some u->(w1.alloc (.cells #[i64 n',i64 0,u64 0] 65)).cell? ((⟨w1.heap.size,0,none⟩:Pc).add j)=some u)/\(∀ u∈cellsOf [(n',(0:Int),(0:Int))],u.oneCell'=true)/\B<=(w1.alloc (.cells #[i64 n',i64 0,u64 0] 65)).heap.size):=⟨Af.own (DL _ _ _) Fw.out,Pw (heap_alloc_new _ (.cells #[i64 n',i64 0,u64 0] 65)),EX _,by
   have:=HB.out.2.2.1.size
   rw[Px];omega⟩
  have hLs:L<=400:=(by omega);have hEs:es.length<=400:=(by omega);have HP:=zh (λ w5 A5 n5 c5=>kQ (B:=B) (n':=n') (w5:=w5) (A5:=A5) (n5:=n5) (c5:=c5) (o:=.cells #[i64 n',i64 0,u64 0] 65) hT HB.out.2.2.1 HB.out.1 HB.out.2.1 HB.out.2.2.2.1 HB.out.2.2.2.2 hr (by omega));have HT:=zh hT;clear hk hB k0 k1 hLk hr hL;go_enter I_,F_;go_wp2_with (at_builtin;refine wpList_append_own _ rfl (.tmp 22) (.tmp 26) 22 (by rfl) B 65 i0 (.agg #[i64 0,i64 0,u64 0]) 3 24 N_ hi BZ BG B4 (by rfl) (by omega) _ _ _ rfl HA.out.1 ⟨w1.heap.size,0,none⟩ 1 1 (cellsOf [(n',0,0)]) rfl (by rfl) HA.out.2.1 HA.out.2.2.1 (by unfold maxLen;omega) (by omega) HA.out.2.2.2 ?_;intro v' w5 A8 Cn _;obtain⟨A5,c5,rfl⟩:=At A8;obtain⟨y0,y1,y2,z0,z1,t0,t1,t2,t3,HE⟩:=HP.out _ _ _ _ A8 Cn;obtain⟨x0,x1,x2,x3,r0,r1,HF⟩:=ER (k:=k) (N:=N) (v:=.slice A L c) HT.out HE.out.2.2.2 HE.out.1 HE.out.2.1 HE.out.2.2.1;clear A8 Cn);exact zy (v:=.agg #[i64 N,.slice A5 _ c5]) (by simp[results,D_,go_sem,r0,r1]) rfl HF.out
 ·rw[hr]at hm;obtain⟨m,hLm⟩:∃ m,L=m+1:=⟨L-1,by omega⟩;obtain⟨g,cc,hv⟩:=EP Fw.out (by omega);injection hv with h1 h2 h3;subst h1;obtain⟨e,nQ⟩:=zx (l:=es) (i:=m) (by omega);have hgT:=HB.out.2.2.2.1 g rfl;have Fx:=Fw.out;unfold AP at Fx;rw[hL]at Fx;have c4:w1.cell? ⟨g,m*3+1,none⟩=some (i64 e.2.1):=by
   rw[PE Fx (m*3+1) (by omega),BM es m 1 e nQ (by omega)]
   rfl
  have f4:=PF Fx (m*3+1);have e9:(L:Int)-1=(m:Int):=(by omega);have k3:(m:Int)<(L:Int):=(by omega);have k4:(0:Int)<=(m:Int):=(by omega);have k5:(L:Int)<=1000:=(by omega);have bT0:=HB.out.1.far (p:=⟨g,m*3+1,none⟩) (by show T≠g;omega) (i64 n');have bT1:=HB.out.2.1.far (p:=⟨g,m*3+1,none⟩) (by show T+1≠g;omega) (i64 n');obtain⟨y0,y1⟩:=BP bT0;obtain⟨x2,x3,x4,x5,r0,r1,HF⟩:=ER (k:=k) (N:=N) (v:=.slice (some ⟨g,0,none⟩) L c) hT (Kept.setCell (F:=λ j=>(Pd (some ⟨g,0,none⟩) L c).ownBlock=some j) (Af.kept HB.out.2.2.1) (p:=⟨g,m*3+1,none⟩) (.inl rfl) _) bT1 (I6.setTo Fw.out hL (by omega) n') (by rw[I4];omega);clear hk hB k0 k1 hLk hr bT0 bT1 hgT Fx nQ hLm h2 h3;go_enter I_,F_;go_wp2_with fail;exact zy (v:=.agg #[i64 N,.slice (some ⟨g,0,none⟩) L c]) (by simp[results,D_,go_sem,r0,r1]) rfl HF.out
 ·rw[hr]at hm;obtain⟨m,hLm⟩:∃ m,L=m+1:=⟨L-1,by omega⟩;obtain⟨g,cc,hv⟩:=EP Fw.out (by omega);injection hv with h1 h2 h3;subst h1;obtain⟨e,nQ⟩:=zx (l:=es) (i:=m) (by omega);have hgT:=HB.out.2.2.2.1 g rfl;have Fx:=Fw.out;unfold AP at Fx;rw[hL]at Fx;have c4:w1.cell? ⟨g,m*3+2,none⟩=some (u64 e.2.2):=by
   rw[PE Fx (m*3+2) (by omega),BM es m 2 e nQ (by omega)]
   rfl
  have f4:=PF Fx (m*3+2);have e9:(L:Int)-1=(m:Int):=(by omega);have k3:(m:Int)<(L:Int):=(by omega);have k4:(0:Int)<=(m:Int):=(by omega);have k5:(L:Int)<=1000:=(by omega);have bT0:=HB.out.1.far (p:=⟨g,m*3+2,none⟩) (by show T≠g;omega) (u64 n);have bT1:=HB.out.2.1.far (p:=⟨g,m*3+2,none⟩) (by show T+1≠g;omega) (u64 n);obtain⟨y0,y1⟩:=BP bT0;obtain⟨x2,x3,x4,x5,r0,r1,HF⟩:=ER (k:=k) (N:=N) (v:=.slice (some ⟨g,0,none⟩) L c) hT (Kept.setCell (F:=λ j=>(Pd (some ⟨g,0,none⟩) L c).ownBlock=some j) (Af.kept HB.out.2.2.1) (p:=⟨g,m*3+2,none⟩) (.inl rfl) _) bT1 (I6.setWo Fw.out hL (by omega) n) (by rw[BF];omega);clear hk hB k0 k1 hLk hr bT0 bT1 hgT Fx nQ hLm h2 h3;go_enter I_,F_;go_wp2_with fail;exact zy (v:=.agg #[i64 N,.slice (some ⟨g,0,none⟩) L c]) (by simp[results,D_,go_sem,r0,r1]) rfl HF.out
def rY (B k:Nat) (v:Pa) (w:O_) (e:Ending) (w':O_):Prop:=∃ (N':Int) (A':Option Pc) (L' c':Nat) (n f:Int),e=.returned (.tuple #[.agg #[i64 N',.slice A' L' c'],u64 n,i64 f])/\(f=0->I6 w' B (.slice A' L' c') (k+1))/\Kept (λ j=>v.ownBlock=some j) w w'
theorem KA (N:Int) (A:Option Pc) (L c B k:Nat) (l:List UInt8) (w:O_) (h:I6 w B (.slice A L c) k) (hB:B<=w.heap.size) (hk:k<=1000) (og:l.length<=500) :
  Pb A_ 117 #[.agg #[i64 N,.slice A L c],i64 k,str l] w (rY B k (.slice A L c) w):=by
 obtain⟨es,he,hl⟩:=h
 have hL:es.length=L:=by
  obtain⟨A9,c9,hv⟩:=At he;injection hv with _ h2 _;exact h2.symm
 obtain⟨T,hT⟩:=zn (w.heap.size)
 obtain⟨w1,AT⟩:=zn ((w.alloc (.cells #[i64 N,.slice A L c] 24)).alloc (.cells #[i64 0,.slice none 0 0] 24))
 have g1:Af w w1:=by rw[<- AT];exact((zr _ _).alloc _).alloc _
 have b0:Ao w1 T 24 #[i64 N,.slice A L c]:=by rw[<- AT,<-hT];exact(zv w _ _).alloc _
 have b1:Ao w1 (T+1) 24 #[i64 0,.slice none 0 0]:=by
  rw[<- AT,<-hT];have h:=zv (w.alloc (.cells #[i64 N,.slice A L c] 24)) 24 #[i64 0,.slice none 0 0];rw[Px]at h;exact h
 have Fw:AP w1 B (.slice A L c) es:=Af.own g1 he
 have AI:∀ j,(Pd A L c).ownBlock=some j->j<T:=λ j hj=>by rw[<- hT];exact(PH he j hj).2
 have HN:=zh (CS l (by omega) w1)
 have HR:=zh (λ p n=>KE N A L c k p n hk w1)
 have HTk:=zh (λ n w2 (g2:Af w1 w2)=>LH N (.slice A L c) B k n w2 ⟨es,Af.own g2 Fw,hl⟩ (by have:=g1.size;have:=g2.size;omega) hk)
 have HX:PJ (∀ w2 (x:Int) (fx:Int),fx≠0->Af w1 w2->rY B k (.slice A L c) w (.returned (.tuple #[.agg #[i64 N,.slice A L c],u64 x,i64 fx])) ((w2.setCell ⟨T+1,0,none⟩ (i64 N)).setCell ⟨T+1,1,none⟩ (.slice A L c))):=zh λ w2 x fx hf g2=>⟨_,_,_,_,_,_,rfl,λ h=>absurd h hf,((Af.kept (g1.trans g2)).setCell (p:=⟨T+1,0,none⟩) (.inr (by show w.heap.size<=T+1;omega)) _).setCell (p:=⟨T+1,1,none⟩) (.inr (by show w.heap.size<=T+1;omega)) _⟩
 have HY:PJ (∀ w3 (N':Int) (A':Option Pc) (L' c':Nat) (x:Int),Kept (λ j=>(Pd A L c).ownBlock=some j) w1 w3->I6 w3 B (.slice A' L' c') (k+1)->(w3.cell? ⟨T+1,0,none⟩=some (i64 0)/\w3.cell? ⟨T+1,1,none⟩=some (.slice none 0 0)/\w3.frozen? ⟨T+1,0,none⟩=false/\(w3.setCell ⟨T+1,0,none⟩ (i64 N')).frozen? ⟨T+1,1,none⟩=false/\((w3.setCell ⟨T+1,0,none⟩ (i64 N')).setCell ⟨T+1,1,none⟩ (.slice A' L' c')).cell? ⟨T+1,0,none⟩=some (i64 N')/\((w3.setCell ⟨T+1,0,none⟩ (i64 N')).setCell ⟨T+1,1,none⟩ (.slice A' L' c')).cell? ⟨T+1,1,none⟩=some (.slice A' L' c') /\
   PJ (rY B k (.slice A L c) w (.returned (.tuple #[.agg #[i64 N',.slice A' L' c'],u64 x,i64 0])) ((w3.setCell ⟨T+1,0,none⟩ (i64 N')).setCell ⟨T+1,1,none⟩ (.slice A' L' c'))))):=zh λ w3 N' A' L' c' x k3 hg=>by
  have b3:=b1.kept k3 (λ h=>by have:=AI _ h;omega)
  obtain⟨x0,x1,x2,x3,r0,r1⟩:=DK b3 (i64 N') (.slice A' L' c')
  refine⟨x0,x1,x2,x3,r0,r1,_,_,_,_,_,_,rfl,λ _=>?_,?_⟩
  ·exact hg.kept (((zr (·=T+1) w3).setCell (p:=⟨T+1,0,none⟩) (.inl rfl) _).setCell (p:=⟨T+1,1,none⟩) (.inl rfl) _) λ j hj h=>by
    obtain rfl:j=T+1:=h;obtain⟨cQ,fk,_⟩:=hg;exact C7 fk b3 (by decide) hj
  ·exact(((Af.kept g1).trans k3).setCell (p:=⟨T+1,0,none⟩) (.inr (by show w.heap.size<=T+1;omega)) _).setCell (p:=⟨T+1,1,none⟩) (.inr (by show w.heap.size<=T+1;omega)) _
 have HB:=BO b0 b1
 obtain⟨c0,c1⟩:=BP b0
 obtain⟨x0,x1,x2,x3,r0,r1⟩:=DK b1 (i64 N) (.slice A L c)
 have e0:(w.alloc (.cells #[.int .i64 N,.slice A L c] 24)).alloc (.cells #[.int .i64 0,.slice none 0 0] 24)=w1:=AT
 have hLk:L<=400:=by omega
 by_cases fb:L=0
 ·subst fb;clear Fw AI b0 b1 g1 hB hk og hl he AT hL hLk;go_enter Tryz.func117,Tryz.ntmps117;go_wp2_with fail;refine HN.out.mono ?_;rintro e w9 ⟨n,f,rfl,rfl⟩;by_cases hf:f=0
  ·subst hf;go_wp2_with fail;refine(HR.out _ _).mono ?_;rintro e w2 ⟨f2,rfl,g2⟩;obtain⟨d0,d1⟩:=BP ((HB.out.1.grew g2));by_cases rr:f2=0
   ·subst rr;have rS:=zh g2;clear g2 x0 x1 x2 x3 r0 r1;go_wp2_with fail;refine(HTk.out _ _ rS.out).mono ?_;rintro e w3 ⟨N',A',L',c',rfl,vq,k3⟩;obtain⟨x0,x1,x2,x3,r0,r1,HF⟩:=HY.out w3 N' A' L' c' n ((Af.kept rS.out).trans k3) vq;clear vq k3;go_wp2_with fail;exact zy (v:=.tuple #[.agg #[i64 N',.slice A' L' c'],u64 n,i64 0]) (by simp[results,C_,go_sem,r0,r1]) rfl HF.out
   ·have ru:(f2 != 0)=true:=(by simpa using rr);have HF:=zh (HX.out w2 0 f2 rr g2);obtain⟨x0,x1,x2,x3,r0,r1⟩:=DK (HB.out.2.grew g2) (i64 N) (.slice A 0 c);clear rr g2;go_wp2_with fail;exact zy (v:=.tuple #[.agg #[i64 N,.slice A 0 c],u64 0,i64 f2]) (by simp[results,C_,go_sem,r0,r1]) rfl HF.out
  ·have lG:(f != 0)=true:=(by simpa using hf);have HF:=zh (HX.out w1 0 3 (by decide) (zr _ _));clear hf;go_wp2_with fail;exact zy (v:=.tuple #[.agg #[i64 N,.slice A 0 c],u64 0,i64 3]) (by simp[results,C_,go_sem,r0,r1]) rfl HF.out
 ·obtain⟨m,hLm⟩:∃ m,L=m+1:=⟨L-1,by omega⟩;obtain⟨g,cc,hv⟩:=EP Fw (by omega);injection hv with h1 h2 h3;subst h1;obtain⟨e,nQ⟩:=zx (l:=es) (i:=m) (by omega);have Fx:=Fw;unfold AP at Fx;rw[hL]at Fx;have c4:w1.cell? ⟨g,m*3,none⟩=some (i64 e.1):=by
   rw[PE Fx (m*3) (by omega),show m*3=m*3+0 by omega,BM es m 0 e nQ (by omega)]
   rfl
  have e9:(L:Int)-1=(m:Int):=(by omega);have k3:(m:Int)<(L:Int):=(by omega);have k4:(0:Int)<=(m:Int):=(by omega);have k5:(L:Int)<=1000:=(by omega);have k6:(0:Int)<(L:Int):=(by omega);clear Fw AI b0 b1 g1 hB hk og hl he AT Fx nQ hLm h2 h3 hL fb;go_enter Tryz.func117,Tryz.ntmps117;go_wp2_with fail;refine HN.out.mono ?_;rintro e w9 ⟨n,f,rfl,rfl⟩;by_cases hf:f=0
  ·subst hf;go_wp2_with fail;refine(HR.out _ _).mono ?_;rintro e w2 ⟨f2,rfl,g2⟩;obtain⟨d0,d1⟩:=BP ((HB.out.1.grew g2));by_cases rr:f2=0
   ·subst rr;have rS:=zh g2;clear g2 x0 x1 x2 x3 r0 r1;go_wp2_with fail;refine(HTk.out _ _ rS.out).mono ?_;rintro e w3 ⟨N',A',L',c',rfl,vq,k3⟩;obtain⟨x0,x1,x2,x3,r0,r1,HF⟩:=HY.out w3 N' A' L' c' n ((Af.kept rS.out).trans k3) vq;clear vq k3;go_wp2_with fail;exact zy (v:=.tuple #[.agg #[i64 N',.slice A' L' c'],u64 n,i64 0]) (by simp[results,C_,go_sem,r0,r1]) rfl HF.out
   ·have ru:(f2 != 0)=true:=(by simpa using rr);have HF:=zh (HX.out w2 0 f2 rr g2);obtain⟨x0,x1,x2,x3,r0,r1⟩:=DK (HB.out.2.grew g2) (i64 N) (.slice (some ⟨g,0,none⟩) L c);clear rr g2;go_wp2_with fail;exact zy (v:=.tuple #[.agg #[i64 N,.slice (some ⟨g,0,none⟩) L c],u64 0,i64 f2]) (by simp[results,C_,go_sem,r0,r1]) rfl HF.out
  ·have lG:(f != 0)=true:=(by simpa using hf);have HF:=zh (HX.out w1 0 3 (by decide) (zr _ _));clear hf;go_wp2_with fail;exact zy (v:=.tuple #[.agg #[i64 N,.slice (some ⟨g,0,none⟩) L c],u64 0,i64 3]) (by simp[results,C_,go_sem,r0,r1]) rfl HF.out
end Go.Proofs.YtepelooebggliaaGreatDoor
