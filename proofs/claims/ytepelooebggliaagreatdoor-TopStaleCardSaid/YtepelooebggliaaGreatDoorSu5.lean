/- Walks of functions that the law reaches, and plain laws, part 6 of 21: lemmas for the proof in the last text; no condition. Shortened by program. -/
import Derived.Laws.IdiomStrings
import Derived.Lib.Bytealg
import Derived.Great.BuildSlice
import Derived.Laws.RangeAny
import Derived.LoopTactic
import Derived.WalkMore
import Derived.Test.YtepelooebggliaaGreatDoorSu0
import Derived.Test.YtepelooebggliaaGreatDoorSu2
import Derived.Test.YtepelooebggliaaGreatDoorSu3
open Go.Proofs.Tryz renaming prog->A_,ntmps92->B_,func92->C_
open Go renaming World->D_,Value->E_,Calls->F_,Addr->G_
open List renaming take_of_length_le->H_,length_append->I_,length->J_,getElem?_cons_succ->K_,take_add_one->L_,flatMap_cons->M_,length_take->N_,getElem?_eq_some_iff->O_,getElem?_map->Pa,all_eq_true->Pb,length_cons->Pc,length_map->Pd,mem_range->Pe
open Go.Value renaming slice->Pf
open Option.some renaming inj->Pg
open Go.IntKind renaming u64->Ph,i64->Pj,wrap_u8->Pk
open Go.Lib renaming indexByte->Pm
open Go.IntWalk renaming i64_in->Pn
open Go.RowKit renaming Hid->Po
open Go.World renaming heap->Pp,news_of_block->Pq,iterPos->Pr
open Array renaming getElem?_eq_some_iff->Ps
set_option maxHeartbeats 16000000
set_option maxRecDepth 100000
set_option linter.unusedVariables false
set_option linter.unusedSimpArgs false
namespace Go.Proofs.YtepelooebggliaaGreatDoor
open Go.RowKit
def D4 (w:D_) (A:Option G_) (zs:List Int):Prop:=∀ (i:Nat) (x:Int),zs[i]? = some x->∃ b off,A=some ⟨b,off,none⟩/\b<w.heap.size/\w.cell? ⟨b,off+i,none⟩=some (u64 x)
theorem D4.kept {F:Nat->Prop} {w w':D_} {A:Option G_} {l:List Int} (h:D4 w A l) (hK:Kept F w w') (hF:∀ a,A=some a->¬ F a.block):D4 w' A l:=λ i x hx=>by
 obtain⟨b,off,hA,hb,hc⟩:=h i x hx;exact⟨b,off,hA,Nat.lt_of_lt_of_le hb hK.size,hK.cell hc (show ¬ F b from hF _ hA)⟩
theorem D4.grew {w w':D_} {A:Option G_} {l:List Int} (h:D4 w A l) (hK:Ac w w'):D4 w' A l:=h.kept hK λ _ _ h=>h
theorem D4.blk {w:D_} {g:Nat} {l:List Int} (h:Am w g 29 (l.map u64).toArray):D4 w (some ⟨g,0,none⟩) l:=λ i x hx=>by
 refine⟨g,0,rfl,h.lt,?_⟩;rw[Nat.zero_add,h.cell i];simp[hx]
theorem aN (A A2:Option G_) (c c2:Nat) (zs:List Int) (w:D_) (h:RowI w A zs) (h2:RowI w A2 zs) (hl:zs.length<=100000) :
  F_ A_ 15 #[.slice A zs.length c,.slice A2 zs.length c2] w λ e w'=>e=.returned (.bool true)/\Ac w w':=by
 obtain⟨L,hL⟩:=zn (zs.length)
 have H0:=DK h h2 hL
 rw[hL]at hl ⊢
 clear h h2 hL
 go_enter Tryz.func15,Tryz.ntmps15
 go_wp2_with fail
 go_loopw [5] (λ i wr=>∃ k:Nat,k<=L/\i=.int .i64 k/\Po (Ac w wr)) (λ i _=>L-(intOf i).toNat)
 case atStart=>exact⟨0,by omega,rfl,zh (zr _ _)⟩
 case round =>
  obtain⟨k,hk,rfl,hg⟩:=hrel;by_cases AH:k<L
  ·have k0:(0:Int)<=(k:Int):=(by omega);have k1:(k:Int)<(L:Int):=(by omega);obtain⟨x,hx⟩:=zx (l:=zs) (i:=k) (by rw[H0.out.2.2];exact AH);obtain⟨b,off,hA,hb,hc⟩:=(H0.out.1.grew hg.out) k x hx;obtain⟨b2,uw,N7,FY,Jp⟩:=(H0.out.2.1.grew hg.out) k x hx;subst hA;subst N7;have HC0:Po (∀ w',Ac wr.drew w'->w'.cell? ⟨b,off+k,none⟩=some (i64 x)):=λ w' k=>k.cell hc;have Ir:Po (∀ w',Ac wr.drew w'->w'.cell? ⟨b2,uw+k,none⟩=some (i64 x)):=λ w' k=>k.cell Jp;clear hx hc Jp hb FY;go_upto_region 6 with fail;refine rG [] (λ _=>False) ?_;refine pG 0 17 ?_;refine pG 1 18 ?_;refine pG 2 19 ?_;refine tG 3 20 (y:=λ w' Ah=>by have q0:=HC0.out w' Ah;have q1:=Ir.out w' Ah;go_simp<;>with_reducible rfl) (h:=?_);refine pG 4 21 ?_;refine pG 5 22 ?_;refine pG 6 23 ?_;refine tG 7 24 (y:=λ w' Ah=>by have q0:=HC0.out w' Ah;have q1:=Ir.out w' Ah;go_simp<;>with_reducible rfl) (h:=?_);refine pG 8 25 ?_;refine dG ?_;have cB:Po (Ac w wr.drew):=hg.out.drew;go_wp2_with fail;go_roundw
   case rel=>exact⟨k+1,by omega,by go_num,cB⟩
   case measure=>simp[intOf];omega
  ·obtain rfl:k=L:=(by omega);go_wp2_with fail;go_ret;exact⟨rfl,hg.out⟩
theorem aQ (A A2:Option G_) (c c2:Nat) (zs:List Int) (w:D_) (h:D4 w A zs) (h2:D4 w A2 zs) (hl:zs.length<=100000) :
  F_ A_ 18 #[.slice A zs.length c,.slice A2 zs.length c2] w λ e w'=>e=.returned (.bool true)/\Ac w w':=by
 obtain⟨L,hL⟩:=zn (zs.length)
 have H0:=DK h h2 hL
 rw[hL]at hl ⊢
 clear h h2 hL
 go_enter Tryz.func18,Tryz.ntmps18
 go_wp2_with fail
 go_loopw [5] (λ i wr=>∃ k:Nat,k<=L/\i=.int .i64 k/\Po (Ac w wr)) (λ i _=>L-(intOf i).toNat)
 case atStart=>exact⟨0,by omega,rfl,zh (zr _ _)⟩
 case round =>
  obtain⟨k,hk,rfl,hg⟩:=hrel;by_cases AH:k<L
  ·have k0:(0:Int)<=(k:Int):=(by omega);have k1:(k:Int)<(L:Int):=(by omega);obtain⟨x,hx⟩:=zx (l:=zs) (i:=k) (by rw[H0.out.2.2];exact AH);obtain⟨b,off,hA,hb,hc⟩:=(H0.out.1.grew hg.out) k x hx;obtain⟨b2,uw,N7,FY,Jp⟩:=(H0.out.2.1.grew hg.out) k x hx;subst hA;subst N7;have HC0:Po (∀ w',Ac wr.drew w'->w'.cell? ⟨b,off+k,none⟩=some (u64 x)):=λ w' k=>k.cell hc;have Ir:Po (∀ w',Ac wr.drew w'->w'.cell? ⟨b2,uw+k,none⟩=some (u64 x)):=λ w' k=>k.cell Jp;clear hx hc Jp hb FY;go_upto_region 6 with fail;refine rG [] (λ _=>False) ?_;refine pG 0 17 ?_;refine pG 1 18 ?_;refine pG 2 19 ?_;refine tG 3 20 (y:=λ w' Ah=>by have q0:=HC0.out w' Ah;have q1:=Ir.out w' Ah;go_simp<;>with_reducible rfl) (h:=?_);refine pG 4 21 ?_;refine pG 5 22 ?_;refine pG 6 23 ?_;refine tG 7 24 (y:=λ w' Ah=>by have q0:=HC0.out w' Ah;have q1:=Ir.out w' Ah;go_simp<;>with_reducible rfl) (h:=?_);refine pG 8 25 ?_;refine dG ?_;have cB:Po (Ac w wr.drew):=hg.out.drew;go_wp2_with fail;go_roundw
   case rel=>exact⟨k+1,by omega,by go_num,cB⟩
   case measure=>simp[intOf];omega
  ·obtain rfl:k=L:=(by omega);go_wp2_with fail;go_ret;exact⟨rfl,hg.out⟩
theorem KX (A:Option G_) (c:Nat) (zs:List Int) (x:Int) (w:D_) (h:RowI w A zs) (hl:zs.length<=100000) :
  F_ A_ 37 #[.slice A zs.length c,i64 x] w λ e w'=>e=.returned (.bool (decide (x∈zs)))/\w=w':=by
 obtain⟨b,hb⟩:=zn (decide (x∈zs))
 obtain⟨L,hL⟩:=zn (zs.length)
 have H0:=DK h hb hL
 rw[hL]at hl
 rw[hL,hb]
 clear h hb hL
 go_enter Tryz.func37,Tryz.ntmps37
 go_wp2_with fail
 go_loop [5] (λ i=>∃ k:Nat,k<=L/\i=.int .i64 k/\Po (x∉zs.take k)) (λ i=>L-(intOf i).toNat)
 case atStart=>exact⟨0,by omega,rfl,zh (by simp)⟩
 case round =>
  obtain⟨k,hk,rfl,hn⟩:=hrel;by_cases AH:k<L
  ·have k0:(0:Int)<=(k:Int):=(by omega);have k1:(k:Int)<(L:Int):=(by omega);obtain⟨y,hy⟩:=zx (l:=zs) (i:=k) (by rw[H0.out.2.2];exact AH);obtain⟨b1,off,hA,Fq,hc⟩:=H0.out.1 k y hy;subst hA;by_cases Kt:y=x
   ·subst Kt;obtain rfl:b=true:=by rw[<- H0.out.2.1];exact zt (zm hy)
    clear hy Fq;go_wp2_with fail;go_ret;exact⟨rfl,rfl⟩
   ·have Bm:(y==x)=false:=(by simpa using Kt);have Hv:Po (x∉zs.take (k+1)):=by
     rw[show (Po (x∉zs.take (k+1)))=Po (x∉zs.take k++[y]) by rw[L_,hy];rfl]
     exact zh (by simp;exact⟨hn.out,λ e=>Kt e.symm⟩)
    clear hy Fq;go_wp2_with fail;go_round
    case rel=>exact⟨k+1,by omega,by go_num,Hv⟩
    case measure=>simp[intOf];omega
  ·obtain rfl:k=L:=(by omega);obtain rfl:b=false:=by
    rw[<- H0.out.2.1]
    have:=hn.out
    rw[H_ (by rw[H0.out.2.2];exact zl _)]at this
    exact zf this
   go_wp2_with fail;go_ret;exact⟨rfl,rfl⟩
def Im (zs:List Int):Bool:=(List.range zs.length).all λ i=>decide ((i:Int)∈zs)
theorem Jf (A:Option G_) (c:Nat) (zs:List Int) (w:D_) (h:RowI w A zs) (hl:zs.length<=100000) :
  F_ A_ 29 #[.slice A zs.length c] w λ e w'=>e=.returned (.bool (Im zs))/\w=w':=by
 obtain⟨b,hb⟩:=zn (Im zs)
 have HH:=zh (λ x=>KX A c zs x w h hl)
 obtain⟨L,hL⟩:=zn (zs.length)
 have H0:=BP hb hL
 rw[hL]at HH hl ⊢
 rw[hb]
 clear h hb hL
 go_enter Tryz.func29,Tryz.ntmps29
 go_wp2_with fail
 go_loop [3] (λ i=>∃ k:Nat,k<=L/\i=.int .i64 k/\Po (∀ i:Nat,i<k->(i:Int)∈zs)) (λ i=>L-(intOf i).toNat)
 case atStart=>exact⟨0,by omega,rfl,zh (by intro i h;omega)⟩
 case round =>
  obtain⟨k,hk,rfl,hn⟩:=hrel;by_cases AH:k<L
  ·have k0:(0:Int)<=(k:Int):=(by omega);have k1:(k:Int)<(L:Int):=(by omega);have hm:=HH.out (k:Int);by_cases Kt:(k:Int)∈zs
   ·rw[zt Kt]at hm;have HM:=zh hm;have Hv:Po (∀ i:Nat,i<k+1->(i:Int)∈zs):=zh (λ i hi=>by
     by_cases e:i=k
     ·subst e;exact Kt
     ·exact hn.out i (by omega))
    clear Kt hm;go_wp2_with fail;refine HM.out.mono ?_;rintro e w9 ⟨rfl,rfl⟩;clear HM;go_wp2_with fail;go_round
    case rel=>exact⟨k+1,by omega,by go_num,Hv⟩
    case measure=>simp[intOf];omega
   ·rw[zf Kt]at hm;have HM:=zh hm;obtain rfl:b=false:=by
     rw[<- H0.out.1]
     unfold Im
     rw[H0.out.2]
     exact Bool.eq_false_iff.2 λ h=>Kt (of_decide_eq_true (Pb.1 h k (Pe.2 AH)))
    clear Kt hm;go_wp2_with fail;refine HM.out.mono ?_;rintro e w9 ⟨rfl,rfl⟩;clear HM;go_wp2_with fail;go_ret;exact⟨rfl,rfl⟩
  ·obtain rfl:k=L:=(by omega);obtain rfl:b=true:=by
    rw[<- H0.out.1]
    unfold Im
    rw[H0.out.2]
    exact Pb.2 λ i hi=>zt (hn.out i (Pe.1 hi))
   go_wp2_with fail;go_ret;exact⟨rfl,rfl⟩
theorem Kept.new (F:Nat->Prop) (w:D_) (o:Obj):Kept F w (w.alloc o):=(zr _ _).alloc o
theorem Kept.newD (F:Nat->Prop) (w:D_) (o:Obj):Kept F w.drew (w.alloc o).drew:=⟨(Ha F w o).os,(Ha F w o).tape,(Ha F w o).output,(Ha F w o).size,(Ha F w o).block⟩
theorem AI (a b:List UInt8):bs a++bs b=bs (a++b):=by
 apply ByteArray.ext;simp[bs]
theorem nh {a b:ByteArray} (h:a.size+b.size<=1000000):¬ a.size+b.size>9223372036854775807/\¬ 9223372036854775807<a.size+b.size:=⟨by omega,by omega⟩
theorem DU {a b:List UInt8} (h:a.length+b.length<=1000000):¬ (bs a).size+(bs b).size>9223372036854775807/\¬ 9223372036854775807<(bs a).size+(bs b).size:=nh (by rw[AT,AT];exact h)
theorem BL {n:Nat} (h:n<18446744073709551616):(dec n).length<=20:=Dz (k:=19) (by omega)
theorem J9 (W:D_) (g:Nat) (c:UInt8) (h:Am W g 5 #[.int .u8 (c.toNat:Int)]):(convert 97 9 (.slice (some ⟨g,0,none⟩) 1 1)).run A_ W=.ok (str [c]) W :=
 run_convert_bytes_back (P:=A_) W 97 9 5 ⟨g,0,none⟩ 1 [c] Tryz.underlying97 Tryz.underlying5 Tryz.underlying9 (λ j hj=>by
  have hj:j<1:=(by simpa using hj);obtain rfl:j=0:=(by omega);have e:(⟨g,0,none⟩:G_).add 0=⟨g,0,none⟩:=by unfold Addr.add;rfl
  rw[e,h.cell 0];rfl)
theorem KY (n:Nat) (hn:n<10) (w:D_):F_ A_ 12 #[u64 n] w λ e w'=>e=.returned (str (dec n))/\Ac w w':=by
 have hd:=Dm hn;obtain⟨c,hc⟩:=zn (UInt8.ofNat (48+n));rw[hc]at hd;have od:dec n=[c]:=(by rw[dec_lt hn,hc]);rw[od];have e1:(48:Int)+(n:Int)=(c.toNat:Int):=(by omega);have l1:(n:Int)<10:=(by omega);have u1:Ph.wrap ((c.toNat:Nat):Int)=(c.toNat:Int):=wrapN _ (by omega);have u2:IntKind.u8.wrap ((c.toNat:Nat):Int)=(c.toNat:Int):=by rw[Pk];omega
 have hcv:=J9 (w.alloc (.cells #[.int .u8 (c.toNat:Int)] 5)) w.heap.size c (zv _ _ _);clear hd od hc hn;go_enter Tryz.func12,Tryz.ntmps12;go_wp2_with fail;go_ret;exact⟨rfl,(zr _ _).alloc _⟩
theorem L6 (n q:Nat) (hn:¬ n<10) (Hv:n<18446744073709551616) (hq:n/10=q) (w:D_) (hI:∀ W,F_ A_ 12 #[u64 q] W λ e w'=>e=.returned (str (dec q))/\Ac W w') :
  F_ A_ 12 #[u64 n] w λ e w'=>e=.returned (str (dec n))/\Ac w w':=by
 have HI:=zh hI
 clear hI
 obtain⟨r,hr⟩:=zn (n%10)
 have hr10:r<10:=by omega
 have hd:=Dm hr10
 obtain⟨c,hc⟩:=zn (UInt8.ofNat (48+r))
 rw[hc]at hd
 have od:dec n=dec q++[c]:=by rw[IB hn,hq,hr,hc]
 rw[od]
 have e1:(48:Int)+(r:Int)=(c.toNat:Int):=by omega
 have e2:(n:Int)/10=(q:Int):=by omega
 have e3:(n:Int)%10=(r:Int):=by omega
 have e4:(n:Int).tmod 10=(r:Int):=by rw[Int.tmod_eq_emod_of_nonneg (by omega)];exact e3
 obtain⟨z1,z2⟩:=DU (a:=dec q) (b:=[c]) (by have:=BL (n:=q) (by omega);simp;omega)
 have z3:bs (dec q)++bs [c]=bs (dec q++[c]):=AI _ _
 have l1:¬ (n:Int)<10:=by omega
 have l2:(n:Int)<18446744073709551616:=by omega
 have u1:Ph.wrap ((c.toNat:Nat):Int)=(c.toNat:Int):=wrapN _ (by omega)
 have u2:IntKind.u8.wrap ((c.toNat:Nat):Int)=(c.toNat:Int):=by rw[Pk];omega
 have u3:Ph.wrap (q:Int)=(q:Int):=wrapN _ (by omega)
 have u4:Ph.wrap (r:Int)=(r:Int):=wrapN _ (by omega)
 clear hd od hc hn hr hq Hv hr10
 go_enter Tryz.func12,Tryz.ntmps12
 go_upto_region 3 with fail
 refine rG [] (λ _=>False) ?_
 refine pG 0 10 ?_
 refine pG 1 11 ?_
 refine pG 3 13 ?_
 refine pG 4 14 ?_
 refine pG 5 15 ?_
 refine pG 6 16 ?_
 refine AP 2 12 7 17 rfl rfl (by kernel_rfl) rfl rfl (by rfl) (by rfl) (λ K Aj=>?_) (λ K Aj=>?_)
 ·skip;go_simp;refine(HI.out _).mono ?_;rintro e y1 ⟨rfl,k1⟩;refine Aj (str (dec q)) _ (λ _=>k1) ?_;clear Aj;simp only[sA];refine sG 7 17 (λ K Aj=>?_);go_simp;obtain⟨y2,DC⟩:=zn ((World.alloc y1 (.cells #[.int .u8 (c.toNat:Int)] 5)));have k2:Ac y1 y2:=by rw[<- DC];exact Ha _ _ _
  have bv:Am y2 (Pp y1).size 5 #[.int .u8 (c.toNat:Int)]:=by rw[<- DC];exact zv _ _ _
  rw[DC];refine Aj (.slice (some ⟨(Pp y1).size,0,none⟩) 1 1) _ (λ _=>k2) ?_;clear Aj;simp only[sA];refine tG 8 18 (y:=λ w' Ah=>by have hx:=J9 w' _ c (bv.grew Ah);go_simp<;>with_reducible rfl) (h:=?_);refine pG 9 19 ?_;refine pG 10 2 ?_;refine dG ?_;have HF:Po (Ac w y2):=(((zr _ _).drew).trans k1).trans k2;clear k1 k2 bv;go_wp2_with fail;go_ret;exact⟨rfl,HF.out⟩
 ·skip;go_simp;obtain⟨y1,Br⟩:=zn ((World.alloc w (.cells #[.int .u8 (c.toNat:Int)] 5)).drew);have k1:Ac w.drew y1:=by rw[<- Br];exact Kept.newD _ _ _
  have bv:Am y1 (Pp w).size 5 #[.int .u8 (c.toNat:Int)]:=by rw[<- Br];exact zv _ _ _
  rw[Br];refine Aj (.slice (some ⟨(Pp w).size,0,none⟩) 1 1) _ (λ _=>k1) ?_;clear Aj;simp only[sA];refine tG 8 18 (y:=λ w' Ah=>by have hx:=J9 w' _ c (bv.grew Ah);go_simp<;>with_reducible rfl) (h:=?_);refine sG 2 12 (λ K Aj=>?_);go_simp;refine(HI.out _).mono ?_;rintro e y2 ⟨rfl,k2⟩;refine Aj (str (dec q)) _ (λ _=>k2) ?_;clear Aj;simp only[sA];refine pG 9 19 ?_;refine pG 10 2 ?_;refine dG ?_;have HF:Po (Ac w y2):=(((zr _ _).drew).trans k1).trans k2;clear k1 k2 bv;go_wp2_with fail;go_ret;exact⟨rfl,HF.out⟩
theorem CG:∀ (n:Nat),n<18446744073709551616->∀ w:D_,F_ A_ 12 #[u64 n] w λ e w'=>e=.returned (str (dec n))/\Ac w w':=by
 intro n;induction n using Nat.strongRecOn with
 | _ n ih =>
  intro hn w;by_cases h:n<10
  ·exact KY n h w
  ·exact L6 n (n/10) h hn rfl w (λ W=>ih (n/10) (by omega) (by omega) W)
theorem Ex (n:Nat) (hn:n<9223372036854775808) (w:D_):F_ A_ 47 #[i64 n] w λ e w'=>e=.returned (str (dec n))/\Ac w w':=by
 have HP:=zh (λ W=>CG n (by omega) W);have u3:Ph.wrap (n:Int)=(n:Int):=wrapN _ (by omega);clear hn;go_enter Tryz.func47,Tryz.ntmps47;go_wp2_with fail;refine(HP.out _).mono ?_;rintro e w1 ⟨rfl,k⟩;go_wp2_with fail;go_ret;exact⟨rfl,k⟩
theorem Fa (n:Nat) (hn:n<9223372036854775808) (w:D_):F_ A_ 11 #[i64 n] w λ e w'=>e=.returned (str (dec n))/\Ac w w':=by
 have HP:=zh (λ W=>CG n (by omega) W);have u3:Ph.wrap (n:Int)=(n:Int):=wrapN _ (by omega);clear hn;go_enter Tryz.func11,Tryz.ntmps11;go_wp2_with fail;refine(HP.out _).mono ?_;rintro e w1 ⟨rfl,k⟩;go_wp2_with fail;go_ret;exact⟨rfl,k⟩
theorem OK (s t:Nat) (hs:s<100000) (ht:t<100000) (w:D_):F_ A_ 13 #[i64 s,i64 t] w λ e w'=>e=.returned (str (32::(dec s++32::dec t)))/\Ac w w':=by
 have HP:=zh (λ W=>Fa s (by omega) W);have HQ:=zh (λ W=>Fa t (by omega) W);have q1:=BL (n:=s) (by omega);have q2:=BL (n:=t) (by omega);have a1:⟨#[32]⟩++bs (dec s)=bs (32::dec s):=AI [32] _;have a2:bs (32::dec s)++⟨#[32]⟩=bs (32::dec s++[32]):=AI _ [32];have a3:bs (32::dec s++[32])++bs (dec t)=bs (32::dec s++[32]++dec t):=AI _ _;obtain⟨z1,z2⟩:=DU (a:=[32]) (b:=dec s) (by simp;omega);obtain⟨z3,z4⟩:=DU (a:=32::dec s) (b:=[32]) (by simp;omega);obtain⟨z5,z6⟩:=DU (a:=32::dec s++[32]) (b:=dec t) (by simp;omega);have z7:(⟨#[32]⟩:ByteArray).size=1:=rfl;have z8:¬ 9223372036854775807<1+(bs (dec s)).size:=z2;have z9:¬ 9223372036854775807<(bs (32::dec s)).size+1:=z4;clear q1 q2;have s0:(0:Int)<=(s:Int):=(by omega);have t0:(0:Int)<=(t:Int):=(by omega);clear hs ht;go_enter Tryz.func13,Tryz.ntmps13;go_wp2_with fail;refine(HP.out _).mono ?_;rintro e w1 ⟨rfl,k⟩;go_wp2_with fail;refine(HQ.out _).mono ?_;rintro e w2 ⟨rfl,k2⟩;have HF:=zh (k.trans k2);clear k k2 HP HQ;go_wp2_with fail;go_ret;exact⟨by rw[AI];simp,HF.out⟩
theorem aO (c:Int) (b:Bool) (h:decide (33<=c/\c<=126)=b) (w:D_):F_ A_ 82 #[.int .u8 c] w λ e w'=>e=.returned (.bool b)/\w=w':=by
 by_cases h1:33<=c
 ·have d1:decide (33<=c)=true:=zt h1;have d2:decide (c<=126)=b:=by rw[<- h];congr 1;simp[h1]
  clear h;cases b;all_goals
   go_enter Tryz.func82,Tryz.ntmps82
   go_wp2_with fail
   go_ret
   exact⟨rfl,rfl⟩
 ·have d1:decide (33<=c)=false:=zf h1;obtain rfl:b=false:=by rw[<- h];exact zf (λ h=>h1 h.1)
  clear h;go_enter Tryz.func82,Tryz.ntmps82;go_wp2_with fail;go_ret;exact⟨rfl,rfl⟩
theorem NG (l:List UInt8) (Ba:Cp l) (hl:l.length<=100000) (w:D_):F_ A_ 48 #[str l] w λ e w'=>e=.returned (.bool true)/\w=w':=by
 obtain⟨L,hL⟩:=zn (l.length);have Df:(bs l).size=L:=(by rw[AT,hL]);have rI:0<L:=by rw[<- hL];exact List.length_pos_iff.2 Ba.1
 have H0:=BP Ba.2 hL;rw[hL]at hl;clear Ba hL;go_enter Tryz.func48,Tryz.ntmps48;go_wp2_with fail;go_loop [3] (λ i=>∃ k:Nat,k<=L/\i=.int .i64 k) (λ i=>L-(intOf i).toNat)
 case atStart=>exact⟨0,by omega,rfl⟩
 case round =>
  obtain⟨k,hk,rfl⟩:=hrel;by_cases AH:k<L
  ·have k0:(0:Int)<=(k:Int):=(by omega);have k1:(k:Int)<(L:Int):=(by omega);obtain⟨c,hc⟩:=zx (l:=l) (i:=k) (by rw[H0.out.2];exact AH);have js:=EF l k hc;have HSg:=zh (λ W=>aO (c.toNat:Int) true (Eb (H0.out.1 c (zm hc))).1 W);clear hc;go_wp2_with fail;refine(HSg.out _).mono ?_;rintro e w9 ⟨rfl,rfl⟩;clear HSg;go_wp2_with fail;go_round
   case rel=>exact⟨k+1,by omega,by go_num⟩
   case measure=>simp[intOf];omega
  ·obtain rfl:k=L:=(by omega);go_wp2_with fail;go_ret;exact⟨by simp<;>omega,rfl⟩
theorem el (ws:List (List UInt8)) (k:Nat) (hk:k<ws.length):(At (ws.take (k+1))).length<=(At ws).length:=by
 obtain⟨q,h⟩:=NW (zq hk);have:=h.le;unfold EE at this;exact this
theorem aM (A:Option G_) (c:Nat) (ws:List (List UInt8)) (w:D_) (h:CU w A ws) (Ba:∀ x∈ws,Cp x) (hn:ws.length<=16384) (hlen:(At ws).length<=65536) :
  F_ A_ 28 #[.slice A ws.length c] w λ e w'=>e=.returned (.tuple #[str (At ws),i64 0])/\w=w':=by
 obtain⟨L,hL⟩:=zn (ws.length)
 have H0:=DS h Ba hL hlen
 rw[hL]at hn ⊢
 clear h Ba hL hlen
 go_enter Tryz.func28,Tryz.ntmps28
 go_wp2_with fail
 go_loop [4] (λ i=>∃ k:Nat,k<=L/\i=.int .i64 k) (λ i=>L-(intOf i).toNat)
 case atStart=>exact⟨0,by omega,rfl⟩
 case round =>
  obtain⟨k,hk,rfl⟩:=hrel;by_cases AH:k<L
  ·have k0:(0:Int)<=(k:Int):=(by omega);have k1:(k:Int)<(L:Int):=(by omega);obtain⟨x,hx⟩:=zx (l:=ws) (i:=k) (by rw[H0.out.2.2.1];exact AH);obtain⟨b,off,hA,hb,hc⟩:=H0.out.1 k x hx;subst hA;have HSg:=zh (λ W=>NG x (H0.out.2.1 x (zm hx)) (by
    obtain⟨q,hq⟩:=NW hx
    have h1:=congrArg J_ hq.cut
    have h2:=H0.out.2.2.2
    simp at h1
    omega) W)
   clear hx hb;go_wp2_with fail;refine(HSg.out _).mono ?_;rintro e w9 ⟨rfl,rfl⟩;clear HSg;go_wp2_with fail;go_round
   case rel=>exact⟨k+1,by omega,by go_num⟩
   case measure=>simp[intOf];omega
  ·obtain rfl:k=L:=(by omega);go_wp2_with fail;go_loop [5,6] (λ s i=>∃ j:Nat,j<=k/\i=.int .i64 j/\s=str (At (ws.take j))) (λ _ i=>k-(intOf i).toNat)
   case atStart=>exact⟨0,by omega,rfl,rfl⟩
   case round =>
    obtain⟨j,hj,rfl,rfl⟩:=hrel;by_cases AH:j<k
    ·have k0:(0:Int)<=(j:Int):=(by omega);have k1:(j:Int)<(k:Int):=(by omega);obtain⟨x,hx⟩:=zx (l:=ws) (i:=j) (by rw[H0.out.2.2.1];exact AH);obtain⟨b,off,hA,hb,hc⟩:=H0.out.1 j x hx;subst hA;obtain⟨sep,_,F9,hs3⟩:=I8 hx;have hm:=el ws j (by rw[H0.out.2.2.1];exact AH);have G7:=H0.out.2.2.2;obtain⟨s0,IL⟩:=zn (At (ws.take j));rcases hs3 with ⟨hj0,zo⟩ | ⟨hj0,zo⟩
     ·subst zo;have l1:¬ (0:Int)<(j:Int):=(by omega);clear hj0;rw[IL]at F9 ⊢;have ha:bs s0++bs x=bs (s0++x):=AI _ _;obtain⟨z1,z2⟩:=DU (a:=s0) (b:=x) (by have:=congrArg J_ F9;simp at this;omega);have hz:(bs (s0++x)).size<=65536:=by rw[AT,show s0++x=At (ws.take (j+1)) by rw[F9];simp];omega
      have Cj:((bs (s0++x)).size:Int)<=65536:=(by omega);have HS:=zh F9;clear F9 hx hm G7 IL hb;go_wp2_with fail;go_round
      case rel=>exact⟨j+1,by omega,by go_num,by rw[HS.out];simp⟩
      case measure=>simp[intOf];omega
     ·subst zo;have l1:(0:Int)<(j:Int):=(by omega);rw[IL]at F9 ⊢;have ha0:bs s0++⟨#[32]⟩=bs (s0++[32]):=AI _ [32];have ha:bs (s0++[32])++bs x=bs (s0++32::x):=by rw[AI];simp
      obtain⟨z1,z2⟩:=DU (a:=s0++[32]) (b:=x) (by have:=congrArg J_ F9;simp at this;simp;omega);obtain⟨z3,z4⟩:=DU (a:=s0) (b:=[32]) (by have:=congrArg J_ F9;simp at this;simp;omega);have z5:(⟨#[32]⟩:ByteArray).size=1:=rfl;have z6:¬ 9223372036854775807<(bs s0).size+1:=z4;have hz:(bs (s0++32::x)).size<=65536:=by rw[AT,show s0++32::x=s0++[32]++x by simp,<-F9];omega
      have Cj:((bs (s0++32::x)).size:Int)<=65536:=(by omega);have HS:=zh F9;clear F9 hx hm G7 IL hb;go_wp2_with fail;go_round
      case rel=>exact⟨j+1,by omega,by go_num,by rw[HS.out];simp⟩
      case measure=>simp[intOf];omega
    ·obtain rfl:j=k:=(by omega);have HJ:Po (At ws=At (ws.take j)):=zh (by rw[H_ (by rw[H0.out.2.2.1];exact zl _)]);go_wp2_with fail;go_ret2;exact⟨by rw[HJ.out];rfl,rfl⟩
end Go.Proofs.YtepelooebggliaaGreatDoor
namespace Go.Proofs.YtepelooebggliaaGreatDoor
def EC (ws:List (List UInt8)):List UInt8:=ws.flatMap λ x=>44::x
def Bl:List (List UInt8)->List UInt8
 | []=>[]
 | x::xs=>x++EC xs
theorem ee (x y:List UInt8) (ws:List (List UInt8)):Bl (x::y::ws)=x++44::Bl (y::ws):=by simp[Bl,EC]
theorem jT (x:List UInt8):Bl [x]=x:=by simp[Bl,EC]
theorem ef {ws:List (List UInt8)} (h:ws≠[]) (x:List UInt8):Bl (ws++[x])=Bl ws++44::x:=by
 cases ws with
 | nil=>exact absurd rfl h
 | cons y ws=>simp[Bl,EC]
theorem Mx (x l:List UInt8) (c:UInt8) (h:c∉x):Pm (x++c::l) c=(x.length:Int):=by
 induction x with
 | nil=>simp[Pm]
 | cons b x ih =>
  have hb:(b==c)=false:=by simp at h;simpa using λ e=>h.1 e.symm
  have hi:=ih (by simp at h;exact h.2);rw[List.cons_append,Pm,hb,hi];have:((x.length:Int)==-1)=false:=beq_eq_false_iff_ne.2 (by omega);simp[this]
theorem index_none (x:List UInt8) (c:UInt8) (h:c∉x):Pm x c=-1:=by
 induction x with
 | nil=>rfl
 | cons b x ih =>
  have hb:(b==c)=false:=by simp at h;simpa using λ e=>h.1 e.symm
  rw[Pm,hb,ih (by simp at h;exact h.2)];simp
theorem iY (n:Nat):(44:UInt8)∉dec n:=λ h=>by
 have:=JE n 44 h;simp at this
theorem My (ws:List (List UInt8)):(Bl ws).length<=ws.length+(ws.map J_).sum:=by
 cases ws with
 | nil=>simp[Bl]
 | cons x xs =>
  have:∀ l:List (List UInt8),(EC l).length=l.length+(l.map J_).sum:=λ l=>by
   induction l with
   | nil=>rfl
   | cons y l ih =>
    have e:EC (y::l)=44::y++EC l:=(by simp[EC]);rw[e,I_,ih];simp;omega
  rw[Bl,I_,this];simp;omega
end Go.Proofs.YtepelooebggliaaGreatDoor
namespace Go.Proofs.YtepelooebggliaaGreatDoor
open Go.RowKit
theorem NN (w:D_) (a:G_) (f:Fn) (x y:Array E_) (m:Mode):(store a (.func f x y) m).run A_ w=stored A_ w a (.func f x y) m:=run_store A_ w a _ m rfl
attribute [local go_sem] NN
theorem NM {w:D_} {A:Option G_} {ls:List (List UInt8)} {R k:Nat} {l:List UInt8} {t:TypeId} {cs:Array E_} (hT:CU w A ls) (hl:ls[k]? = some l) (hR:Am w R t cs) (hn:∀ (i:Nat) x,cs[i]? ≠ some (Value.string x)):∀ a,A=some a->a.block≠R:=λ a ha e=>by
 obtain⟨b,off,hA,hb,hc⟩:=hT k _ hl;rw[hA]at ha;cases ha;simp at e;subst e;rw[hR.cell]at hc;exact hn _ _ hc
theorem jk (R:Nat) (A:Option G_) (ls:List (List UInt8)) (cap k N p q r:Nat) (w:D_) (hR:Am w R 201 #[.slice A ls.length cap,i64 k,i64 0]) (h0:ls[k]? = some (dec p)) (h1:ls[k+1]? = some (dec q)) (h2:ls[k+2]? = some (dec r))
  (hp:p<N) (hq:q<N) (hN:N<=4096) (Gh:p≠q) (hr:1<=r/\r<=4294967296) (DY:ls.length<=100000) (hT:CU w A ls) (Bg:ls.length<=cap) :
  F_ A_ 126 #[pt R,i64 N] w λ e w'=>e=.returned (.agg #[i64 p,i64 q,u64 r])/\Am w' R 201 #[.slice A ls.length cap,i64 (k+3:Nat),i64 0]/\Kept (·=R) w w':=by
 have Bm:=NM hT h0 hR (by
  intro i x h;match i,h with
  | 0,h=>simp at h
  | 1,h=>simp at h
  | 2,h=>simp at h
  | n+3,h=>simp at h)
 have jo:=hR.lt
 have w1':Ph.wrap ((N:Int)-1)=(N:Int)-1:=Go.IntWalk.u64_in _ (by omega)
 have w0':Pj.wrap ((N:Int)-1)=(N:Int)-1:=Pn _ (by omega)
 have cp:Pj.wrap (p:Int)=(p:Int):=Pn _ (by omega)
 have cq:Pj.wrap (q:Int)=(q:Int):=Pn _ (by omega)
 have N0:(0:Int)<=(N:Int):=by omega
 have N1:(N:Int)<=4096:=by omega
 have k0:Ac w (w.alloc (.cells #[i64 0,i64 0,u64 0] 65)):=(zr _ _).alloc _
 have bE:=zv w 65 #[i64 0,i64 0,u64 0]
 have HB:=JQ hR hT Bm k0 bE jo
 have HL:=Gt h0 h1 h2 DY Bg
 have HN:=Gt hp hq hN Gh hr
 have HW:=zh GZ
 clear hR h0 h1 h2 hp hq hN Gh hr DY hT Bg Bm k0 bE jo
 go_enter Tryz.func126,Tryz.ntmps126
 go_wp2_with fail
 refine(HW.out _ _ _ _).mono ?_
 rintro e w1 ⟨v,rfl,⟨ga,gb,gc,rfl,Gk,GO,tU⟩,k1⟩
 have hv:iJ w1 (.func (.func 238) #[] #[pt ga,pt gb,pt gc]) 0 ((N:Int)-1) 7:=⟨ga,gb,gc,rfl,Gk,GO,tU⟩
 clear Gk GO tU
 have g1:Ac w1 (w1.alloc (.cells #[(.func (.func 238) #[] #[pt ga,pt gb,pt gc])] 261)):=(zr _ _).alloc _
 have S1:=zh (show iJ (w1.alloc (.cells #[(.func (.func 238) #[] #[pt ga,pt gb,pt gc])] 261)) (.func (.func 238) #[] #[pt ga,pt gb,pt gc]) 0 ((N:Int)-1) 7/\Am (w1.alloc (.cells #[(.func (.func 238) #[] #[pt ga,pt gb,pt gc])] 261)) w1.heap.size 261 #[(.func (.func 238) #[] #[pt ga,pt gb,pt gc])]/\Am (w1.alloc (.cells #[(.func (.func 238) #[] #[pt ga,pt gb,pt gc])] 261)) w.heap.size 65 #[i64 0,i64 0,u64 0]/\Am (w1.alloc (.cells #[(.func (.func 238) #[] #[pt ga,pt gb,pt gc])] 261)) R 201 #[.slice A ls.length cap,i64 k,i64 0]/\CU (w1.alloc (.cells #[(.func (.func 238) #[] #[pt ga,pt gb,pt gc])] 261)) A ls/\Ac w (w1.alloc (.cells #[(.func (.func 238) #[] #[pt ga,pt gb,pt gc])] 261)) from
  ⟨hv.grew g1,zv _ _ _,HB.out.2.2.2.2.1.grew (k1.trans g1),HB.out.1.grew (HB.out.2.2.2.1.trans (k1.trans g1)),HB.out.2.1.grew (HB.out.2.2.2.1.trans (k1.trans g1)),HB.out.2.2.2.1.trans (k1.trans g1)⟩)
 have hVlt:Po (w.heap.size<w1.heap.size):=by have:=k1.size;simp at this;show _<_;omega
 clear hv k1 g1
 have C1:=zh (JO R A ls cap k p 0 ((N:Int)-1) 7 (.func (.func 238) #[] #[pt ga,pt gb,pt gc]) (w1.alloc (.cells #[(.func (.func 238) #[] #[pt ga,pt gb,pt gc])] 261)) S1.out.2.2.2.1 HL.out.1 (by have:=HN.out;omega) HL.out.2.2.2.1 S1.out.2.2.2.2.1 HL.out.2.2.2.2 S1.out.1 (by have:=HN.out;omega) (by have:=HN.out;omega))
 go_wp2_with fail
 refine C1.out.mono ?_
 rintro e w2 ⟨rfl,Ng,k2⟩
 have nE:¬ w.heap.size=R:=by have:=HB.out.2.2.2.2.2;omega
 have nV:¬ w1.heap.size=R:=by have:=HB.out.2.2.2.2.2;have:=hVlt.out;omega
 have bE2:=S1.out.2.2.1.kept k2 nE
 have bV2:=S1.out.2.1.kept k2 nV
 have rL:=S1.out.1.kept k2 (λ g t cs hg ht h=>by subst h;exact Ay hg S1.out.2.2.2.1 (by rcases ht with rfl | rfl<;>decide) rfl)
 have hT2:=S1.out.2.2.2.2.1.kept k2 HB.out.2.2.1
 have kk2:=(Ac.kept S1.out.2.2.2.2.2).trans k2
 have gS:Kept (·=w.heap.size) w2 (w2.setCell ⟨w.heap.size,0,none⟩ (i64 p)):=(zr (·=w.heap.size) w2).setCell (p:=⟨w.heap.size,0,none⟩) (.inl rfl) _
 have nEV:¬ w1.heap.size=w.heap.size:=by have:=hVlt.out;omega
 have e0:=bE2.cell 0
 have f0:=bE2.frozen 0
 have v0:=(bV2.far (p:=⟨w.heap.size,0,none⟩) nEV (i64 p)).cell 0
 simp at e0 v0
 have S2:=zh (show iJ (w2.setCell ⟨w.heap.size,0,none⟩ (i64 p)) (.func (.func 238) #[] #[pt ga,pt gb,pt gc]) 0 ((N:Int)-1) 7/\Am (w2.setCell ⟨w.heap.size,0,none⟩ (i64 p)) w1.heap.size 261 #[(.func (.func 238) #[] #[pt ga,pt gb,pt gc])]/\Am (w2.setCell ⟨w.heap.size,0,none⟩ (i64 p)) w.heap.size 65 #[i64 p,i64 0,u64 0]/\Am (w2.setCell ⟨w.heap.size,0,none⟩ (i64 p)) R 201 #[.slice A ls.length cap,i64 (k+1:Nat),i64 0]/\CU (w2.setCell ⟨w.heap.size,0,none⟩ (i64 p)) A ls/\Kept (·=R) w (w2.setCell ⟨w.heap.size,0,none⟩ (i64 p)) from
  ⟨rL.kept gS (λ g t cs hg ht h=>by subst h;exact Ay hg bE2 (by rcases ht with rfl | rfl<;>decide) rfl),bV2.far (p:=⟨w.heap.size,0,none⟩) nEV _,by have:=bE2.set 0 (i64 p);simpa using this,Ng.far (p:=⟨w.heap.size,0,none⟩) (λ h=>nE h.symm) _,
   hT2.kept gS (NM hT2 HL.out.1 bE2 (by
    intro i x h;match i,h with
    | 0,h=>simp at h
    | 1,h=>simp at h
    | 2,h=>simp at h
    | n+3,h=>simp at h)),kk2.then gS (λ i hi h=>by have h:i=w.heap.size:=h;omega)⟩)
 clear C1 Ng k2 bE2 bV2 rL hT2 kk2 gS S1
 have C2:=zh (pI R A ls cap (k+1) q p 0 0 0 ((N:Int)-1) 7 w.heap.size w1.heap.size (.func (.func 238) #[] #[pt ga,pt gb,pt gc]) (w2.setCell ⟨w.heap.size,0,none⟩ (i64 p)) S2.out.2.2.2.1 HL.out.2.1 (by have:=HN.out;omega) HL.out.2.2.2.1 S2.out.2.2.2.2.1 HL.out.2.2.2.2 S2.out.2.2.1 S2.out.2.1 S2.out.1 (by have:=HN.out;omega) (by have:=HN.out;omega) (by have:=HN.out;omega) (by have:=HN.out;omega))
 go_wp2_with fail
 refine C2.out.mono ?_
 rintro e w3 ⟨rfl,fK,k3⟩
 have rE:=S2.out.2.2.1.kept k3 nE
 have hT3:=S2.out.2.2.2.2.1.kept k3 HB.out.2.2.1
 have kk3:=S2.out.2.2.2.2.2.trans k3
 have gS:Kept (·=w.heap.size) w3 (w3.setCell ⟨w.heap.size,1,none⟩ (i64 q)):=(zr (·=w.heap.size) w3).setCell (p:=⟨w.heap.size,1,none⟩) (.inl rfl) _
 have S3:=zh (show Am (w3.setCell ⟨w.heap.size,1,none⟩ (i64 q)) w.heap.size 65 #[i64 p,i64 q,u64 0]/\Am (w3.setCell ⟨w.heap.size,1,none⟩ (i64 q)) R 201 #[.slice A ls.length cap,i64 (k+2:Nat),i64 0]/\CU (w3.setCell ⟨w.heap.size,1,none⟩ (i64 q)) A ls/\Kept (·=R) w (w3.setCell ⟨w.heap.size,1,none⟩ (i64 q)) from
  ⟨by have:=rE.set 1 (i64 q);simpa using this,fK.far (p:=⟨w.heap.size,1,none⟩) (λ h=>nE h.symm) _,hT3.kept gS (NM hT3 HL.out.1 rE (by
    intro i x h;match i,h with
    | 0,h=>simp at h
    | 1,h=>simp at h
    | 2,h=>simp at h
    | n+3,h=>simp at h)),kk3.then gS (λ i hi h=>by have h:i=w.heap.size:=h;omega)⟩)
 clear e0 f0 v0
 have e0:=rE.cell 1
 have f0:=rE.frozen 1
 simp at e0
 clear C2 fK k3 rE hT3 kk3 gS S2
 go_wp2_with fail
 refine(HW.out _ _ _ _).mono ?_
 rintro e w4 ⟨v2,rfl,hv,k4⟩
 have C3:=zh (JO R A ls cap (k+2) r 1 4294967296 2 v2 w4 (S3.out.2.1.grew k4) HL.out.2.2.1 (by have:=HN.out;omega) HL.out.2.2.2.1 (S3.out.2.2.1.grew k4) HL.out.2.2.2.2 hv (by have:=HN.out;omega) (by have:=HN.out;omega))
 have S4:=BP (S3.out.1.grew k4) (S3.out.2.2.2.grew k4)
 clear hv k4 S3 e0 f0
 go_wp2_with fail
 refine C3.out.mono ?_
 rintro e w5 ⟨rfl,vH,k5⟩
 have vl:=S4.out.1.kept k5 nE
 have e0:=vl.cell 0
 have e1:=vl.cell 1
 have e2:=vl.cell 2
 have f0:=vl.frozen 0
 have f1:=vl.frozen 1
 have f2:=vl.frozen 2
 simp at e0 e1 e2
 have kk:=S4.out.2.trans k5
 have HF:Po (∀ w6,Kept (·=w.heap.size) w5 w6->Am w6 R 201 #[.slice A ls.length cap,i64 (k+3:Nat),i64 0]/\Kept (·=R) w w6):=λ w6 g=>⟨vH.kept g (λ h=>nE h.symm),kk.then g (λ i hi h=>by have h:i=w.heap.size:=h;omega)⟩
 have bF:=(((vl.set 2 (u64 r)).set 0 (i64 p)).set 1 (i64 q)).set 2 (u64 r)
 obtain⟨q0,q1,q2⟩:=mu bF
 have gF:Kept (·=w.heap.size) w5 ((((w5.setCell ⟨w.heap.size,2,none⟩ (u64 r)).setCell ⟨w.heap.size,0,none⟩ (i64 p)).setCell ⟨w.heap.size,1,none⟩ (i64 q)).setCell ⟨w.heap.size,2,none⟩ (u64 r)) :=
  ((((zr (·=w.heap.size) w5).setCell (p:=⟨w.heap.size,2,none⟩) (.inl rfl) _).setCell (p:=⟨w.heap.size,0,none⟩) (.inl rfl) _).setCell (p:=⟨w.heap.size,1,none⟩) (.inl rfl) _).setCell (p:=⟨w.heap.size,2,none⟩) (.inl rfl) _
 have HFF:=zh (HF.out _ gF)
 clear bF gF HF C3 vH k5 vl kk S4
 go_wp2_with fail
 refine zy (v:=.agg #[i64 p,i64 q,u64 r]) (by simp[results,Tryz.results126,go_sem,q0,q1,q2]) rfl ⟨rfl,HFF.out⟩
end Go.Proofs.YtepelooebggliaaGreatDoor
namespace Go.Proofs.YtepelooebggliaaGreatDoor
open Go.RowKit
def Dw (e:AB):List (List UInt8):=[dec e.1.toNat,dec e.2.1.toNat,dec e.2.2.toNat]
def AJ (n:Nat) (es:List AB):List (List UInt8):=dec n::dec es.length::es.flatMap Dw
theorem bq (es:List AB):(es.flatMap Dw).length=3*es.length:=by
 induction es with
 | nil=>rfl
 | cons e es ih=>rw[M_,I_,ih];simp[Dw];omega
theorem CX (n:Nat) (es:List AB):(AJ n es).length=2+3*es.length:=by unfold AJ;rw[Pc,Pc,bq];omega
theorem Ez:∀ (es:List AB) (i j:Nat) (e:AB),es[i]? = some e->j<3->(es.flatMap Dw)[3*i+j]? = (Dw e)[j]?
 | [],i,j,e,h,_=>by simp at h
 | x::es,0,j,e,h,hj=>by
  simp only[List.getElem?_cons_zero,Option.some.injEq]at h;subst h;rw[M_,Nat.mul_zero,Nat.zero_add,List.getElem?_append_left (by simp[Dw];omega)]
 | x::es,i+1,j,e,h,hj=>by
  rw[K_]at h;have ih:=Ez es i j e h hj;have e2:(Dw x).length=3:=rfl;rw[M_,List.getElem?_append_right (by omega),e2,show 3*(i+1)+j-3=3*i+j by omega];exact ih
theorem Lo {n:Nat} {es:List AB} {k:Nat} {p q r:Nat} (h:es[k]? = some ((p:Int),(q:Int),(r:Int))):(AJ n es)[2+3*k]? = some (dec p)/\(AJ n es)[2+3*k+1]? = some (dec q)/\(AJ n es)[2+3*k+2]? = some (dec r):=by
 have e:∀ j,(AJ n es)[2+3*k+j]? = (es.flatMap Dw)[3*k+j]? := λ j=>by
  unfold AJ;rw[show 2+3*k+j=(3*k+j)+1+1 by omega,K_,K_]
 refine⟨?_,?_,?_⟩
 ·rw[<- Nat.add_zero (2+3*k),e 0,Ez es k 0 _ h (by omega)];simp[Dw]
 ·rw[e 1,Ez es k 1 _ h (by omega)];simp[Dw]
 ·rw[e 2,Ez es k 2 _ h (by omega)];simp[Dw]
theorem az {N:Nat} {es:List AB} {k:Nat} {e:AB} (hr:Aq N es=0) (h:es[k]? = some e):∃ p q r:Nat,e=((p:Int),(q:Int),(r:Int))/\p<N/\q<N/\p≠q/\1<=r/\r<=4294967296:=by
 have:=Ch hr (zm h);unfold Mb at this;obtain⟨p,q,r⟩:=e;simp only at this;exact⟨p.toNat,q.toNat,r.toNat,by simp;omega,by omega,by omega,by omega,by omega,by omega⟩
structure GpS (w:D_) (A:Option G_) (cap L N:Nat) (es:List AB) (k:Nat) (v:E_) (wr:D_):Prop where
 rd:Am wr (w.heap.size+1) 201 #[.slice A L cap,i64 (2+3*k:Nat),i64 0]
 gr:Am wr w.heap.size 24 #[i64 N,v]
 own:Bc wr (w.heap.size+2) v (es.take k)
 kept:Ac w wr
theorem dA (A:Option G_) (cap N:Nat) (es:List AB) (w:D_) (hr:Aq N es=0) (hm:es.length<=1000) (hT:CU w A (AJ N es)) (Bg:(AJ N es).length<=cap) :
  F_ A_ 89 #[.slice A (AJ N es).length cap] w λ e w'=>∃ v,e=.returned (.tuple #[.agg #[i64 N,v],i64 0,i64 0])/\Bc w' w.heap.size v es/\Ac w w':=by
 obtain⟨i0,hi,Cu,BV,Cj⟩:=info_parts IP
 obtain⟨L,hL⟩:=zn ((AJ N es).length)
 obtain⟨m,JJ⟩:=zn (es.length)
 have nS:L=2+3*m:=by rw[<- hL,CX,JJ]
 have hrz:=right_zero hr
 have HR:=zh hr
 have HM:=zh JJ
 have HL:=zh hL
 have HL2:=zh nS
 have HRZ:Po (1<=N/\N<=4096):=⟨by omega,by omega⟩
 have k0:Ac w ((w.alloc (.cells #[i64 0,.slice none 0 0] 24)).alloc (.cells #[.slice A L cap,i64 0,i64 0] 201)):=((zr _ _).alloc _).alloc _
 have bG:=(zv w 24 #[i64 0,.slice none 0 0]).alloc (.cells #[.slice A L cap,i64 0,i64 0] 201)
 have bR:=zv (w.alloc (.cells #[i64 0,.slice none 0 0] 24)) 201 #[.slice A L cap,i64 0,i64 0]
 rw[World.size_alloc]at bR
 have rK:=hT.grew k0
 have HT:=zh hT
 rw[hL]at Bg
 have hF:=jh (w.heap.size+1) A (AJ N es) cap N m ((w.alloc (.cells #[i64 0,.slice none 0 0] 24)).alloc (.cells #[.slice A L cap,i64 0,i64 0] 201)) (by rw[hL];exact bR) rfl (by unfold AJ;rw[JJ];rfl) HRZ.out (by omega) (by rw[hL];omega) rK (by rw[hL];exact Bg)
 rw[hL]at hF ⊢
 have HF:=zh hF
 have HB:=BP bG k0
 have m1:(m:Int)<=1000:=by omega
 have HC:=zh Bg
 clear hr JJ hL nS hrz hT rK hF bG bR k0 Bg hm
 go_enter Tryz.func89,Tryz.ntmps89
 go_wp2_with fail
 go_step3
 go_wp2_with fail
 refine HF.out.mono ?_
 rintro e w1 ⟨rfl,hR1,k1⟩
 have bG1:=HB.out.1.kept k1 (by show ¬ w.heap.size=w.heap.size+1;omega)
 have kk1:Ac w w1:=HB.out.2.then k1 (λ i hi h=>by have h:i=w.heap.size+1:=h;omega)
 have e0:=bG1.cell 0
 have f0:=bG1.frozen 0
 simp at e0
 have gS:Kept (·=w.heap.size) w1 (w1.setCell ⟨w.heap.size,0,none⟩ (i64 N)):=(zr (·=w.heap.size) w1).setCell (p:=⟨w.heap.size,0,none⟩) (.inl rfl) _
 have S0:Po (GpS w A cap L N es 0 (.slice none 0 0) (w1.setCell ⟨w.heap.size,0,none⟩ (i64 N))):=by
  refine⟨hR1.far (p:=⟨w.heap.size,0,none⟩) (by show w.heap.size+1≠w.heap.size;omega) _,?_,World.ownsRow_nil _ _ _ _,kk1.then gS (λ i hi h=>by have h:i=w.heap.size:=h;omega)⟩;have:=bG1.set 0 (i64 N);simpa using this
 clear HF HB hR1 k1 bG1 kk1 gS
 go_wp2_with fail
 clear e0 f0
 go_loopw [19] (λ i wr=>∃ (k:Nat) (A2:Option G_) (c2:Nat),k<=m/\i=.int .i64 k/\Po (GpS w A cap L N es k (.slice A2 k c2) wr)) (λ i _=>m-(intOf i).toNat)
 case atStart=>exact⟨0,none,0,by omega,rfl,S0⟩
 case round =>
  clear S0;obtain⟨k,A2,c2,hk,rfl,hS⟩:=hrel;have r0:=hS.out.rd.cell 0;have r1:=hS.out.rd.cell 1;have r2:=hS.out.rd.cell 2;have g1:=hS.out.gr.cell 1;have gf:=hS.out.gr.frozen 1;simp at r0 r1 r2 g1;by_cases AH:k<m
  ·as_aux_lemma =>
   have l1:(k:Int)<(m:Int):=(by omega);obtain⟨x,hx⟩:=zx (l:=es) (i:=k) (by rw[HM.out];exact AH);obtain⟨p,q,r,rfl,hp,hq,Gh,Ob,Kq⟩:=az HR.out hx;obtain⟨w0',w1',w2'⟩:=Lo (n:=N) hx;have hTr:=HT.out.grew hS.out.kept;have hE:=jk (w.heap.size+1) A (AJ N es) cap (2+3*k) N p q r wr.drew (by rw[HL.out];exact hS.out.rd) w0' w1' w2' hp hq HRZ.out.2 Gh ⟨Ob,Kq⟩ (by rw[HL.out,HL2.out];omega) hTr (by rw[HL.out];exact HC.out);rw[HL.out]at hE;have HE:=zh hE;have DZ:=hS.out.own;have Eh:(es.take k).length=k:=by rw[N_,HM.out];omega
   unfold Bc at DZ;rw[Eh]at DZ;have HO:=zh DZ;have HT1:Po (es.take (k+1)=es.take k++[((p:Int),(q:Int),(r:Int))]/\(es.take (k+1)).length=k+1):=by
    refine⟨by rw[L_,hx];rfl,by rw[N_,HM.out];omega⟩
   have nG:¬ (Pf A2 k c2).ownBlock=some w.heap.size:=λ h=>by have:=(DZ.lt _ h).1;omega
   have nR:¬ (Pf A2 k c2).ownBlock=some (w.heap.size+1):=λ h=>by have:=(DZ.lt _ h).1;omega
   have Df:=hS.out.kept.size;have hsz2:w.heap.size+2<=wr.heap.size:=by have:=hS.out.rd.lt;omega
   have HGR:=zh hS.out.gr;have HKP:=zh hS.out.kept;clear hx w0' w1' w2' hTr hE DZ hS hp hq Gh Ob Kq Eh;go_wp2_with fail;refine rG [8] (λ j=>j=w.heap.size+1\/(Pf A2 k c2).ownBlock=some j) ?_;refine pG 0 26 ?_;refine tG 1 27 (y:=λ w' Ah=>by have AM:=((zr (λ j=>j=w.heap.size+1\/(Pf A2 k c2).ownBlock=some j) wr).drew.trans Ah).cell (p:=⟨w.heap.size,1,none⟩) g1 (by rintro (h | h);(have h:w.heap.size=w.heap.size+1:=h;omega);exact nG h);go_simp<;>with_reducible rfl) (h:=?_);refine pG 2 28 ?_;refine pG 3 29 ?_;refine sG 4 30 (λ K Aj=>?_);go_simp;refine HE.out.mono ?_;rintro e wS ⟨rfl,yn,kS⟩;show K _ _;refine Aj (.agg #[i64 p,i64 q,u64 r]) _ (λ _=>kS.mono (λ i hi h=>.inl h)) ?_;clear Aj;simp only[sA];refine sG 5 31 (λ K Aj=>?_);have kS0:Kept (·=w.heap.size+1) wr wS:=kS.undrew;have oS:Po (wS.ownsRow (w.heap.size+2) 65 3 (.slice A2 k c2) k (cellsOf (es.take k))):=Kept.own kS0 HO.out (λ j hj h=>nR (by have h:j=w.heap.size+1:=h;rw[<- h];exact hj));have hN:Po (∀ j u,(BB ((p:Int),(q:Int),(r:Int)))[j]? = some u->(wS.alloc (.cells #[i64 p,i64 q,u64 r] 65)).cell? ((⟨wS.heap.size,0,none⟩:G_).add j)=some u):=Pq (heap_alloc_new wS (.cells #[i64 p,i64 q,u64 r] 65));have szS:=kS0.size;go_simp;refine Aj _ _ (λ _=>(zr _ _).alloc _) ?_;clear Aj;simp only[sA];refine sG 6 32 (λ K Aj=>?_);refine wp_append_lies _ (.tmp 27) (.tmp 31) 22 (by rfl) (w.heap.size+2) 65 i0 (.agg #[i64 0,i64 0,.int .u64 0]) 3 24 Tryz.underlying22 hi Cu BV Cj (by rfl) (by omega) (.slice A2 k c2) k (cellsOf (es.take k)) (by rfl) (Ac.own ((zr (λ _=>False) _).alloc _) oS.out) ⟨wS.heap.size,0,none⟩ 1 1 (BB ((p:Int),(q:Int),(r:Int))) (by rfl) (by rfl) hN.out ?_ (by omega) ?_ ?_ ?_ _ rfl ?_
   ·intro u hu;simp[BB]at hu;rcases hu with rfl | rfl | rfl<;>rfl
   ·unfold maxLen;omega
   ·omega
   ·simp;omega
   intro g cp wa Bb AD _ _;refine Aj _ _ (λ _=>(zr _ _).grown AD (λ k hk=>.inl (.inr hk))) ?_;clear Aj;simp only[sA];refine pG 7 33 ?_;refine DH 8 (λ K Aj=>?_);have kA:Kept (λ j=>(Pf A2 k c2).ownBlock=some j) wS wa:=((zr _ _).alloc _).grown AD (λ k hk=>.inl hk);have bGa:=(HGR.out.kept kS0 (by show ¬ w.heap.size=w.heap.size+1;omega)).kept kA nG;have ga:=bGa.cell 1;have gfa:=bGa.frozen 1;simp at ga;go_simp;refine Aj _ (λ h=>absurd (by simp) h) ?_;clear Aj;refine dG ?_;have hgB:=(Bb.lt g rfl).1;have hF:Kept (·=w.heap.size) wa (wa.setCell ⟨w.heap.size,1,none⟩ (.slice (some ⟨g,0,none⟩) (k+1) cp)):=(zr (·=w.heap.size) wa).setCell (p:=⟨w.heap.size,1,none⟩) (.inl rfl) _;have Ci:Po (GpS w A cap L N es (k+1) (.slice (some ⟨g,0,none⟩) (k+1) cp) (wa.setCell ⟨w.heap.size,1,none⟩ (.slice (some ⟨g,0,none⟩) (k+1) cp))):=by
    refine⟨(yn.kept kA nR).far (p:=⟨w.heap.size,1,none⟩) (by show w.heap.size+1≠w.heap.size;omega) _,?_,?_,?_⟩
    ·have q:=bGa.set 1 (.slice (some ⟨g,0,none⟩) (k+1) cp);simpa using q
    ·unfold Bc;rw[HT1.out.2,HT1.out.1,Ef,OB];exact Kept.own hF Bb (λ j hj h=>by
      obtain rfl:g=j:=Pg hj
      have h:g=w.heap.size:=h
      omega)
    ·exact((HKP.out.then kS0 (λ i hi h=>by have h:i=w.heap.size+1:=h;omega)).then kA (λ i hi h=>by have:=(HO.out.lt i h).1;omega)).then hF (λ i hi h=>by have h:i=w.heap.size:=h;omega)
   clear Bb AD kA bGa hF oS hN kS kS0 yn HGR HKP HO HT1 ga gfa r0 r1 r2 g1 gf HE;go_wp2_with fail;go_roundw
   case rel=>exact⟨k+1,_,_,by omega,by go_num,Ci⟩
   case measure=>simp[intOf];omega
  ·as_aux_lemma =>
   obtain rfl:k=m:=(by omega);have g0:=hS.out.gr.cell 0;have gf0:=hS.out.gr.frozen 0;simp at g0;have l2:(L:Int)<=2+3*(k:Int):=by rw[HL2.out];omega
   have ts:es.take k=es:=H_ (by rw[HM.out];exact zl _);have own:=hS.out.own;rw[ts]at own;have nG:¬ (Pf A2 k c2).ownBlock=some w.heap.size:=λ h=>by have:=(own.lt _ h).1;omega
   have bF:=(hS.out.gr.set 0 (i64 N)).set 1 (.slice A2 k c2);obtain⟨q0,q1⟩:=CE bF;have gF:Kept (·=w.heap.size) wr ((wr.setCell ⟨w.heap.size,0,none⟩ (i64 N)).setCell ⟨w.heap.size,1,none⟩ (.slice A2 k c2)):=((zr (·=w.heap.size) wr).setCell (p:=⟨w.heap.size,0,none⟩) (.inl rfl) _).setCell (p:=⟨w.heap.size,1,none⟩) (.inl rfl) _;have HFF:=zh (show Bc ((wr.setCell ⟨w.heap.size,0,none⟩ (i64 N)).setCell ⟨w.heap.size,1,none⟩ (.slice A2 k c2)) w.heap.size (.slice A2 k c2) es/\Ac w ((wr.setCell ⟨w.heap.size,0,none⟩ (i64 N)).setCell ⟨w.heap.size,1,none⟩ (.slice A2 k c2)) from
    ⟨Az (Kept.own gF own (λ j hj h=>by have h:j=w.heap.size:=h;rw[h]at hj;exact nG hj)) (by omega),hS.out.kept.then gF (λ i hi h=>by have h:i=w.heap.size:=h;omega)⟩)
   clear hS own bF gF ts nG;go_wp2_with fail;rw[Exit.noGoto_ret];refine zy (v:=.tuple #[.agg #[i64 N,.slice A2 k c2],i64 0,i64 0]) (by simp[results,Tryz.results89,go_sem,q0,q1]) rfl ⟨_,rfl,HFF.out⟩
def xG (w:D_) (B:Nat) (q:E_) (qs:List (Int×Int)):Prop:=w.ownsRow B 172 2 q qs.length (qs.flatMap λ r=>[u64 r.1,u64 r.2])
structure D2 (w:D_) (X:Nat) (nm:List UInt8) (v:E_) (zs:List Int) (wv:Int) (q:E_) (qs:List (Int×Int)) (gn:Int) (ge rk:E_) (f:Int):Prop where
 blk:Am w X 124 #[str nm,v,u64 wv,q,i64 gn,ge,rk,i64 f]
 own:AO w (X+1) v zs
 ownq:xG w (X+1) q qs
theorem D2.kept {F:Nat->Prop} {w w':D_} {X:Nat} {nm:List UInt8} {v:E_} {zs:List Int} {qs:List (Int×Int)} {wv gn f:Int} {q ge rk:E_} (h:D2 w X nm v zs wv q qs gn ge rk f) (k:Kept F w w') (hX:¬ F X) (hv:∀ j,v.ownBlock=some j->¬ F j) (hq:∀ j,q.ownBlock=some j->¬ F j):D2 w' X nm v zs wv q qs gn ge rk f:=⟨h.blk.kept k hX,h.own.kept k hv,Kept.own k h.ownq hq⟩
theorem D2.grew {w w':D_} {X:Nat} {nm:List UInt8} {v:E_} {zs:List Int} {qs:List (Int×Int)} {wv gn f:Int} {q ge rk:E_} (h:D2 w X nm v zs wv q qs gn ge rk f) (k:Ac w w'):D2 w' X nm v zs wv q qs gn ge rk f:=h.kept k (λ h=>h) (λ _ _ h=>h) (λ _ _ h=>h)
theorem D2.other {w w':D_} {X I:Nat} {o:Obj} {nm:List UInt8} {v:E_} {zs:List Int} {qs:List (Int×Int)} {wv gn f:Int} {q ge rk:E_} (h:D2 w X nm v zs wv q qs gn ge rk f) (k:Kept (·=I) w w') (hI:w.heap[I]? = some o) (ho:∀ cs t r,o≠.cells cs t r):D2 w' X nm v zs wv q qs gn ge rk f:=by
 refine h.kept k (λ e=>?_) (λ j hj e=>?_) (λ j hj e=>?_)
 ·have e:X=I:=e;subst e;have:=(show w.heap[X]? = _ from h.blk).symm.trans hI;exact ho _ _ _ (Pg this).symm
 ·have e:j=I:=e;subst e;obtain⟨_,c,hc⟩:=Ao h.own hj;exact ho _ _ _ (Pg (hc.symm.trans hI)).symm
 ·have e:j=I:=e;subst e;obtain⟨_,c,hc⟩:=Ao h.ownq hj;exact ho _ _ _ (Pg (hc.symm.trans hI)).symm
theorem F2 (X:Nat) (nm:List UInt8) (v:E_) (zs:List Int) (wv:Int) (q:E_) (qs:List (Int×Int)) (gn:Int) (ge rk:E_) (f:Int) (l:List UInt8) (n lo hi:Nat) (w:D_) (h:D2 w X nm v zs wv q qs gn ge rk f) (hd:BI l n) (h1:lo<=n) (h2:n<=hi) (h3:hi<=1000000) (hz:zs.length<=1000) :
  F_ A_ 132 #[pt X,str l,i64 lo,i64 hi] w λ e w'=>e=.returned (.tuple #[])/\(∃ v',D2 w' X nm v' (zs++[(n:Int)]) wv q qs gn ge rk 0)/\Kept (λ j=>j=X\/v.ownBlock=some j) w w':=by
 obtain⟨i0,Mt,Cu,BV,Cj⟩:=info_parts info_int
 have HI:=zh (gh l n hi hd h2 h3 w)
 have d1:¬ (n:Int)<(lo:Int):=by omega
 obtain⟨Z,hZ⟩:=zn (zs.length)
 have rP:=h.own
 unfold AO at rP
 rw[hZ]at hz rP
 obtain⟨A2,c2,GO,_⟩:=h.own.row
 rw[hZ]at GO
 have HV:=zh GO
 have HO:=zh rP
 have HB:=zh h.blk
 have HQ:=BP h.ownq (λ j hj=>Dt h.own h.ownq (by decide) (j:=j) hj)
 have HZ:=zh hZ
 have hXl:=h.blk.lt
 have n0:(0:Int)<=(n:Int):=by omega
 have n9:(n:Int)<=1000000:=by omega
 subst GO
 clear h hd h1 h2 h3 rP hZ
 go_enter Tryz.func132,Tryz.ntmps132
 go_wp2_with fail
 refine HI.out.mono ?_
 rintro e w1 ⟨rfl,k1⟩
 have Fq:=HB.out.grew k1
 have e1:=Fq.cell 1
 have e7:=Fq.cell 7
 have f1:=Fq.frozen 1
 have f7:=Fq.frozen 7
 simp at e1 e7
 have own1:Po ((w1.alloc (.cells #[i64 n] 3)).ownsRow (X+1) 3 1 (.slice A2 Z c2) Z (zs.map i64)):=Ac.own (k1.trans ((zr _ _).alloc _)) HO.out
 have hN:Po (∀ r u,[i64 n][r]? = some u->(w1.alloc (.cells #[i64 n] 3)).cell? ((⟨w1.heap.size,0,none⟩:G_).add r)=some u):=Pq (heap_alloc_new w1 (.cells #[i64 n] 3))
 have Df:=k1.size
 have LV:Po (X+1<=w1.heap.size):=by show _<=_;omega
 have nX:¬ (Pf A2 Z c2).ownBlock=some X:=λ h=>by have:=(HO.out.lt _ h).1;omega
 have HBB:=zh Fq
 have K1:=zh k1
 clear HI k1 Fq Df
 go_wp2_with
  (at_builtin
   refine wpList_append_lies _ rfl (.tmp 29) (.tmp 31) 26 (by rfl) (X+1) 3 i0 (.int .i64 0) 1 8 Tryz.underlying26 Mt Cu BV Cj (by rfl) (by omega) (.slice A2 Z c2) Z (zs.map i64) (by rfl) own1.out ⟨w1.heap.size,0,none⟩ 1 1 [i64 n] (by rfl) (by rfl) hN.out (by intro u hu;simp at hu;subst hu;rfl) (by omega) (by unfold maxLen;omega) (by omega) (by have:=LV.out;simp;omega) _ rfl ?_
   intro g cp wa Bb AD _ _
   have kA:Kept (λ j=>(Pf A2 Z c2).ownBlock=some j) w1 wa:=((zr _ _).alloc _).grown AD (λ k hk=>.inl hk)
   have OR:=HBB.out.kept kA nX
   have a1:=OR.cell 1
   have a7:=OR.cell 7
   have b1:=OR.frozen 1
   have b7:=OR.frozen 7
   simp at a1 a7
   have HF:Po ((∃ v',D2 ((wa.setCell ⟨X,1,none⟩ (.slice (some ⟨g,0,none⟩) (Z+1) cp)).setCell ⟨X,7,none⟩ (i64 0)) X nm v' (zs++[(n:Int)]) wv q qs gn ge rk 0)/\Kept (λ j=>j=X\/(Pf A2 Z c2).ownBlock=some j) w ((wa.setCell ⟨X,1,none⟩ (.slice (some ⟨g,0,none⟩) (Z+1) cp)).setCell ⟨X,7,none⟩ (i64 0))):=by
    have gX:Kept (·=X) wa ((wa.setCell ⟨X,1,none⟩ (.slice (some ⟨g,0,none⟩) (Z+1) cp)).setCell ⟨X,7,none⟩ (i64 0)):=((zr (·=X) wa).setCell (p:=⟨X,1,none⟩) (.inl rfl) _).setCell (p:=⟨X,7,none⟩) (.inl rfl) _;have hgB:X+1<=g:=(Bb.lt g rfl).1;refine⟨⟨.slice (some ⟨g,0,none⟩) (Z+1) cp,?_,?_,?_⟩,?_⟩
    ·have:=(OR.set 1 (.slice (some ⟨g,0,none⟩) (Z+1) cp)).set 7 (i64 0);simpa using this
    ·unfold AO;rw[I_,HZ.out,List.map_append];exact Kept.own gX Bb (λ j hj h=>by
      obtain rfl:g=j:=Pg hj
      have h:g=X:=h
      omega)
    ·exact Kept.own gX (Kept.own kA (Ac.own K1.out HQ.out.1) (λ j hj h=>HQ.out.2 j h hj)) (λ j hj h=>by
      have h:j=X:=h;have:=(HQ.out.1.lt j hj).1;omega)
    ·exact((Ac.kept K1.out).trans (kA.mono λ i hi h=>.inr h)).trans (gX.mono λ i hi h=>.inl h)
   clear Bb AD kA OR)
 clear own1 hN LV HBB K1
 go_wp2_with fail
 go_end0
 exact⟨rfl,HF.out⟩
theorem zAi (X:Nat) (nm:List UInt8) (v:E_) (zs:List Int) (wv:Int) (q:E_) (qs:List (Int×Int)) (gn:Int) (ge rk:E_) (f:Int) (l:List UInt8) (n:Nat) (w:D_) (h:D2 w X nm v zs wv q qs gn ge rk f) (hd:BI l n) (h1:0<=n) (h2:n<=4095) (hz:zs.length<=1000) :
  F_ A_ 92 #[pt X,.int .i32 110,str l] w λ e w'=>e=.returned (.tuple #[])/\(∃ v',D2 w' X nm v' (zs++[(n:Int)]) wv q qs gn ge rk 0)/\Kept (λ j=>j=X\/v.ownBlock=some j) w w':=by
 have HN:=zh (F2 X nm v zs wv q qs gn ge rk f l n 0 4095 w h hd h1 h2 (by decide) hz)
 clear h hd h1 h2 hz
 go_enter C_,B_
 go_wp2_with fail
 refine HN.out.mono ?_
 rintro e w1 ⟨rfl,h2⟩
 have H2:=zh h2
 clear h2 HN
 go_wp2_with fail
 go_end0
 exact⟨rfl,H2.out⟩
theorem zAg (X:Nat) (nm:List UInt8) (v:E_) (zs:List Int) (wv:Int) (q:E_) (qs:List (Int×Int)) (gn:Int) (ge rk:E_) (f:Int) (l:List UInt8) (n:Nat) (w:D_) (h:D2 w X nm v zs wv q qs gn ge rk f) (hd:BI l n) (h1:0<=n) (h2:n<=16383) (hz:zs.length<=1000) :
  F_ A_ 92 #[pt X,.int .i32 101,str l] w λ e w'=>e=.returned (.tuple #[])/\(∃ v',D2 w' X nm v' (zs++[(n:Int)]) wv q qs gn ge rk 0)/\Kept (λ j=>j=X\/v.ownBlock=some j) w w':=by
 have HN:=zh (F2 X nm v zs wv q qs gn ge rk f l n 0 16383 w h hd h1 h2 (by decide) hz)
 clear h hd h1 h2 hz
 go_enter C_,B_
 go_wp2_with fail
 refine HN.out.mono ?_
 rintro e w1 ⟨rfl,h2⟩
 have H2:=zh h2
 clear h2 HN
 go_wp2_with fail
 go_end0
 exact⟨rfl,H2.out⟩
theorem zAh (X:Nat) (nm:List UInt8) (v:E_) (zs:List Int) (wv:Int) (q:E_) (qs:List (Int×Int)) (gn:Int) (ge rk:E_) (f:Int) (l:List UInt8) (n:Nat) (w:D_) (h:D2 w X nm v zs wv q qs gn ge rk f) (hd:BI l n) (h1:1<=n) (h2:n<=1024) (hz:zs.length<=1000) :
  F_ A_ 92 #[pt X,.int .i32 107,str l] w λ e w'=>e=.returned (.tuple #[])/\(∃ v',D2 w' X nm v' (zs++[(n:Int)]) wv q qs gn ge rk 0)/\Kept (λ j=>j=X\/v.ownBlock=some j) w w':=by
 have HN:=zh (F2 X nm v zs wv q qs gn ge rk f l n 1 1024 w h hd h1 h2 (by decide) hz)
 clear h hd h1 h2 hz
 go_enter C_,B_
 go_wp2_with fail
 refine HN.out.mono ?_
 rintro e w1 ⟨rfl,h2⟩
 have H2:=zh h2
 clear h2 HN
 go_wp2_with fail
 go_end0
 exact⟨rfl,H2.out⟩
theorem zAj (X:Nat) (nm:List UInt8) (v:E_) (zs:List Int) (wv:Int) (q:E_) (qs:List (Int×Int)) (gn:Int) (ge rk:E_) (f:Int) (l:List UInt8) (n:Nat) (w:D_) (h:D2 w X nm v zs wv q qs gn ge rk f) (hd:BI l n) (h1:0<=n) (h2:n<=100) (hz:zs.length<=1000) :
  F_ A_ 92 #[pt X,.int .i32 111,str l] w λ e w'=>e=.returned (.tuple #[])/\(∃ v',D2 w' X nm v' (zs++[(n:Int)]) wv q qs gn ge rk 0)/\Kept (λ j=>j=X\/v.ownBlock=some j) w w':=by
 have HN:=zh (F2 X nm v zs wv q qs gn ge rk f l n 0 100 w h hd h1 h2 (by decide) hz)
 clear h hd h1 h2 hz
 go_enter C_,B_
 go_wp2_with fail
 refine HN.out.mono ?_
 rintro e w1 ⟨rfl,h2⟩
 have H2:=zh h2
 clear h2 HN
 go_wp2_with fail
 go_end0
 exact⟨rfl,H2.out⟩
theorem zAl (X:Nat) (nm:List UInt8) (v:E_) (zs:List Int) (wv:Int) (q:E_) (qs:List (Int×Int)) (gn:Int) (ge rk:E_) (f:Int) (l:List UInt8) (n:Nat) (w:D_) (h:D2 w X nm v zs wv q qs gn ge rk f) (hd:BI l n) (hn:n<18446744073709551616) :
  F_ A_ 92 #[pt X,.int .i32 119,str l] w λ e w'=>e=.returned (.tuple #[])/\D2 w' X nm v zs n q qs gn ge rk (if 1<=n/\n<=4294967296 then 0 else 2)/\Kept (λ j=>j=X\/v.ownBlock=some j) w w':=by
 have HN:=zh (Du l n hd hn w)
 have HH:=zh h
 have hXl:=h.blk.lt
 clear h hd
 have key:n<1\/(1<=n/\n<=4294967296)\/4294967296<n:=by omega
 rcases key with hc | hc | hc
 all_goals
  first
  | (have d1:(n:Int)<1:=by omega
     rw[if_neg (by omega)])
  | (have d1:¬ (n:Int)<1:=by omega
     have d2:¬ (4294967296:Int)<(n:Int):=by omega
     rw[if_pos (by omega)])
  | (have d1:¬ (n:Int)<1:=by omega
     have d2:(4294967296:Int)<(n:Int):=by omega
     rw[if_neg (by omega)])
  clear hc
  go_enter C_,B_
  go_wp2_with fail
  refine HN.out.mono ?_
  rintro e w1 ⟨rfl,k1⟩
  have hb:=HH.out.grew k1
  have e2:=hb.blk.cell 2
  have e7:=hb.blk.cell 7
  have f2:=hb.blk.frozen 2
  have f7:=hb.blk.frozen 7
  simp at e2 e7
  have HF:Po (∀ fo:Int,D2 ((w1.setCell ⟨X,2,none⟩ (u64 n)).setCell ⟨X,7,none⟩ (i64 fo)) X nm v zs n q qs gn ge rk fo/\Kept (λ j=>j=X\/v.ownBlock=some j) w ((w1.setCell ⟨X,2,none⟩ (u64 n)).setCell ⟨X,7,none⟩ (i64 fo))):=λ fo=>by
   have gX:Kept (·=X) w1 ((w1.setCell ⟨X,2,none⟩ (u64 n)).setCell ⟨X,7,none⟩ (i64 fo)):=((zr (·=X) w1).setCell (p:=⟨X,2,none⟩) (.inl rfl) _).setCell (p:=⟨X,7,none⟩) (.inl rfl) _;refine⟨⟨?_,hb.own.kept gX (λ j hj h=>?_),Kept.own gX hb.ownq (λ j hj h=>?_)⟩,(Ac.kept k1).trans (gX.mono λ i hi h=>.inl h)⟩
   ·have:=(hb.blk.set 2 (u64 n)).set 7 (i64 fo);simpa using this
   ·have h:j=X:=h;have:=(hb.own.lt j hj).1;omega
   ·have h:j=X:=h;have:=(hb.ownq.lt j hj).1;omega
  clear HN hb
  go_wp2_with fail
  go_end0
  exact⟨rfl,HF.out _⟩
structure Arg where
 k:UInt8
 l:List UInt8
 n:Nat
 d:Nat
structure St where
 zs:List Int
 wv:Int
 qs:List (Int×Int)
 f:Int
def Iu (s:St) (a:Arg):St :=
 if a.k=119 then { s with wv:=a.n,f:=if 1<=a.n/\a.n<=4294967296 then 0 else 2 } else if a.k=97 then { s with wv:=a.n,f:=0 }
 else if a.k=114 then { s with qs:=s.qs++[((a.n:Int),(a.d:Int))],f:=0 } else { s with zs:=s.zs++[(a.n:Int)],f:=0 }
def BJ (s:St) (Bv:List Arg):St:=Bv.foldl Iu s
def FC (a:Arg):Prop :=
 (a.k=110/\BI a.l a.n/\a.n<=4095)\/(a.k=101/\BI a.l a.n/\a.n<=16383)\/(a.k=107/\BI a.l a.n/\1<=a.n/\a.n<=1024)\/(a.k=111/\BI a.l a.n/\a.n<=100)\/(a.k=119/\BI a.l a.n/\a.n<18446744073709551616)
theorem bm (X:Nat) (nm:List UInt8) (v:E_) (s:St) (q:E_) (gn:Int) (ge rk:E_) (a:Arg) (w:D_) (h:D2 w X nm v s.zs s.wv q s.qs gn ge rk s.f) (ha:FC a) (hz:s.zs.length<=1000) :
  F_ A_ 92 #[pt X,.int .i32 (a.k.toNat:Int),str a.l] w λ e w'=>e=.returned (.tuple #[])/\(∃ v' q',D2 w' X nm v' (Iu s a).zs (Iu s a).wv q' (Iu s a).qs gn ge rk (Iu s a).f)/\Kept (λ j=>j=X\/v.ownBlock=some j\/q.ownBlock=some j) w w':=by
 obtain⟨ak,al,an,ad⟩:=a
 unfold FC at ha
 simp only at ha
 have nums:∀ {e:Ending} {w':D_},e=.returned (.tuple #[])/\(∃ v',D2 w' X nm v' (s.zs++[(an:Int)]) s.wv q s.qs gn ge rk 0)/\Kept (λ j=>j=X\/v.ownBlock=some j) w w'->ak≠119->ak≠97->ak≠114 ->
   e=.returned (.tuple #[])/\(∃ v' q',D2 w' X nm v' (Iu s ⟨ak,al,an,ad⟩).zs (Iu s ⟨ak,al,an,ad⟩).wv q' (Iu s ⟨ak,al,an,ad⟩).qs gn ge rk (Iu s ⟨ak,al,an,ad⟩).f)/\Kept (λ j=>j=X\/v.ownBlock=some j\/q.ownBlock=some j) w w':=λ ⟨h1,⟨v',h2⟩,h3⟩ n1 n2 n3=>by
  refine⟨h1,⟨v',q,?_⟩,h3.mono λ i hi h=>h.imp id .inl⟩
  unfold Iu
  simp only[n1,n2,n3,if_false]
  exact h2
 rcases ha with ⟨rfl,hd,h1⟩ | ⟨rfl,hd,h1⟩ | ⟨rfl,hd,h0,h1⟩ | ⟨rfl,hd,h1⟩ | ⟨rfl,hd,h1⟩
 ·exact(zAi X nm v s.zs s.wv q s.qs gn ge rk s.f al an w h hd (Nat.zero_le _) h1 hz).mono λ e w' hp=>nums hp (by decide) (by decide) (by decide)
 ·exact(zAg X nm v s.zs s.wv q s.qs gn ge rk s.f al an w h hd (Nat.zero_le _) h1 hz).mono λ e w' hp=>nums hp (by decide) (by decide) (by decide)
 ·exact(zAh X nm v s.zs s.wv q s.qs gn ge rk s.f al an w h hd h0 h1 hz).mono λ e w' hp=>nums hp (by decide) (by decide) (by decide)
 ·exact(zAj X nm v s.zs s.wv q s.qs gn ge rk s.f al an w h hd (Nat.zero_le _) h1 hz).mono λ e w' hp=>nums hp (by decide) (by decide) (by decide)
 ·exact(zAl X nm v s.zs s.wv q s.qs gn ge rk s.f al an w h hd h1).mono λ e w' ⟨h1,h2,h3⟩=>⟨h1,⟨v,q,h2⟩,h3.mono λ i hi h=>h.imp id .inl⟩
theorem Jh (W:D_) (I:Nat) (l:List UInt8) (pos:Nat) (ty:TypeId) (c:UInt8) (h:W.heap[I]? = some (.stringIter (bs l) pos)) (hc:l[pos]? = some c) (ha:c.toNat<128) :
  ∃ W1,(Instr.next (.pointer (some ⟨I,0,none⟩)) true ty).run A_ W=.ok (.tuple #[.bool true,.int .i64 pos,.int .i32 (c.toNat:Int)]) W1/\W1.heap[I]? = some (.stringIter (bs l) (pos+1))/\Kept (·=I) W W1:=by
 have AH:pos<l.length:=(O_.1 hc).1
 have hp:pos<(bs l).size:=by rw[AT];exact AH
 have dJ:(bs l)[pos]'hp=c:=by
  have:=(O_.1 hc).2;rw[<- this];simp[bs];rfl
 have hd:=decode_ascii (bs l) pos hp (by rw[dJ];exact ha)
 rw[dJ]at hd
 have hI:I<W.heap.size:=(Ps.1 h).1
 refine⟨{ W with heap:=W.heap.setIfInBounds I (.stringIter (bs l) (pos+1)) },?_,?_,⟨rfl,rfl,rfl,by simp,λ k hk hf=>?_⟩⟩
 ·simp only[Instr.next,getObj,setObj,Sem.run_bind,Sem.run,h,Result.andThen,hp,if_true,hd];simp[goInt,Sem.run,h,hI]
 ·simp[hI]
 ·have:¬ k=I:=hf;show (W.heap.setIfInBounds I _)[k]? = _;rw[Array.getElem?_setIfInBounds_ne (λ e=>this e.symm)]
theorem Gp (W:D_) (I:Nat) (l:List UInt8) (ty:TypeId) (h:W.heap[I]? = some (.stringIter (bs l) l.length)) :
  (Instr.next (.pointer (some ⟨I,0,none⟩)) true ty).run A_ W=.ok (.tuple #[.bool false]) W:=by
 have:¬ l.length<(bs l).size:=by rw[AT];omega
 simp[Instr.next,getObj,Sem.run,h,this]
theorem je (s:St) (l:List Arg) (a:Arg):BJ s (l++[a])=Iu (BJ s l) a:=by simp[BJ,List.foldl_append]
theorem Mi {s:St} {l:List Arg} {k:Nat} {a:Arg} (h:l[k]? = some a):BJ s (l.take (k+1))=Iu (BJ s (l.take k)) a:=by
 rw[L_,h];exact je _ _ _
theorem sW (s:St) (a:Arg):(Iu s a).zs.length<=s.zs.length+1:=by
 unfold Iu;split
 ·simp
 ·split
  ·simp
  ·split<;>simp
theorem OJ (l:List Arg):∀ s:St,(BJ s l).zs.length<=s.zs.length+l.length:=by
 induction l with
 | nil=>intro s;simp[BJ]
 | cons a l ih =>
  intro s;have h1:=ih (Iu s a);have h2:=sW s a;have:BJ s (a::l)=BJ (Iu s a) l:=rfl;rw[this];simp;omega
structure RsS (w:D_) (X I:Nat) (nm kd:List UInt8) (Bv:List Arg) (k:Nat) (gn:Int) (ge rk:E_) (wr:D_):Prop where
 rd:∃ v q,D2 wr X nm v (BJ ⟨[],0,[],0⟩ (Bv.take k)).zs (BJ ⟨[],0,[],0⟩ (Bv.take k)).wv q (BJ ⟨[],0,[],0⟩ (Bv.take k)).qs gn ge rk (BJ ⟨[],0,[],0⟩ (Bv.take k)).f
 it:wr.heap[I]? = some (.stringIter (bs kd) k)
 kept:Kept (λ j=>X<=j) w wr
 fine:(BJ ⟨[],0,[],0⟩ (Bv.take k)).f=0
theorem kN (X i cap:Nat) (A:Option G_) (Bv:List Arg) (gn:Int) (ge rk:E_) (w:D_) (hi:i<13) (h0:i≠0) (h1:i≠1) (h9:i≠9) (hk:Ct i=Bv.map (·.k)) (hall:∀ a∈Bv,FC a)
  (Hs:∀ k,k<Bv.length->(BJ ⟨[],0,[],0⟩ (Bv.take k)).f=0) (hT:CU w A (Bv.map (·.l))) (Bg:Bv.length<=cap) (hlen:Bv.length<=100) (h:D2 w X (Af i) (.slice none 0 0) [] 0 (.slice none 0 0) [] gn ge rk 0) (hA:∀ a,A=some a->a.block<X) :
  F_ A_ 56 #[pt X,.slice A Bv.length cap] w λ e w'=>e=.returned (.tuple #[])/\(∃ v q,D2 w' X (Af i) v (BJ ⟨[],0,[],0⟩ Bv).zs (BJ ⟨[],0,[],0⟩ Bv).wv q (BJ ⟨[],0,[],0⟩ Bv).qs gn ge rk (BJ ⟨[],0,[],0⟩ Bv).f)/\Kept (λ j=>X<=j) w w':=by
 have eL:((bs (Af i)).toList==[76,79,65,68])=false:=by
  rw[Al];exact beq_eq_false_iff_ne.2 (λ e=>h0 (EP hi (by decide) (e.trans (show [76,79,65,68]=Af 0 from rfl))))
 have eB:((bs (Af i)).toList==[66,85,73,76,68])=false:=by
  rw[Al];exact beq_eq_false_iff_ne.2 (λ e=>h1 (EP hi (by decide) (e.trans (show [66,85,73,76,68]=Af 1 from rfl))))
 have hXl:=h.blk.lt
 obtain⟨L,hL⟩:=zn (Bv.length)
 have HK:=zh (Ea i L true w hi h9 (by rw[hk,Pd,hL];exact beq_self_eq_true _))
 have Kn:(Ct i).length=L:=by rw[hk,Pd,hL]
 obtain⟨kd,OU⟩:=zn (Ct i)
 rw[OU]at HK hk Kn
 have c0:=h.blk.cell 0
 simp at c0
 have HR:=zh h
 have HA:=zh (show _/\_/\_/\_/\_/\_/\_ from ⟨hk,hall,Hs,hT,hA,hL,Kn⟩)
 obtain⟨nm,Cw⟩:=zn (Af i)
 rw[Cw]at eL eB HK c0 HR ⊢
 rw[hL]at Bg hlen ⊢
 clear h hk hall Hs hT hA hL OU Cw Kn hi h0 h1 h9
 go_enter Tryz.func56,Tryz.ntmps56
 go_wp2_with fail
 go_step3
 go_wp2_with fail
 refine HK.out.mono ?_
 rintro e w1 ⟨rfl,k1⟩
 have HR1:=zh (HR.out.grew k1)
 have K1:=zh k1
 have hXl1:=k1.size
 clear HK HR k1 c0 eL eB
 go_wp2_with fail
 go_step3
 go_wp2_with fail
 obtain⟨W0,EH⟩:=zn (w1.iter (bs kd) 0)
 have S0:Po (RsS w X w1.heap.size nm kd Bv 0 gn ge rk W0):=by
  have g1:Ac w1 W0:=by rw[<- EH];exact(zr _ _).alloc _
  refine⟨⟨_,_,HR1.out.grew g1⟩,by rw[<- EH];exact World.iter_heap _ _ _,(Ac.kept (K1.out.trans g1)),rfl⟩
 rw[EH]
 have hIX:X<w1.heap.size:=by omega
 clear HR1 K1 EH
 go_loopw [] (λ wr=>∃ (k:Nat),k<=L/\Po (RsS w X w1.heap.size nm kd Bv k gn ge rk wr)) (λ wr=>L-wr.iterPos w1.heap.size)
 case atStart=>exact⟨0,by omega,S0⟩
 case round =>
  clear S0;obtain⟨k,hk,hS⟩:=hrel;have HPW:Po (wr.iterPos w1.heap.size=k):=by show _=_;unfold Pr;rw[hS.out.it]
  by_cases AH:k<L
  ·as_aux_lemma =>
   obtain⟨a,ha⟩:=zx (l:=Bv) (i:=k) (by rw[HA.out.2.2.2.2.2.1];exact AH);have Ba:=HA.out.2.1 a (zm ha);have OU:kd[k]? = some a.k:=by rw[HA.out.1,Pa,ha];rfl
   have zB:(Bv.map (·.l))[k]? = some a.l:=by rw[Pa,ha];rfl
   have nN:a.k.toNat<128:=by unfold FC at Ba;rcases Ba with h | h | h | h | h<;>(rw[h.1];decide)
   obtain⟨W1,JK,hit,tD⟩:=Jh wr w1.heap.size kd k 0 a.k hS.out.it OU nN;obtain⟨v,q,JL⟩:=hS.out.rd;have IJ:=JL.other tD hS.out.it (λ cs t r=>by simp);have hT:=HA.out.2.2.2.1;obtain⟨b,off,hAA,hb,hc⟩:=hT k _ zB;have hbX:b<X:=HA.out.2.2.2.2.1 _ hAA;have Mr:=(hS.out.kept.cell hc (by show ¬ X<=b;omega));have Jp:=tD.cell Mr (by show ¬ b=w1.heap.size;omega);subst hAA;have n8:=zh (bm X nm v (BJ ⟨[],0,[],0⟩ (Bv.take k)) q gn ge rk a W1 IJ Ba (by have:=OJ (Bv.take k) ⟨[],0,[],0⟩;simp[N_]at this;omega));rw[<- Mi ha]at n8;have k0:(0:Int)<=(k:Int):=(by omega);have k1:(k:Int)<(L:Int):=(by omega);have k2:(L:Int)<=(cap:Int):=(by omega);have nI:∀ j,(j=X\/v.ownBlock=some j\/q.ownBlock=some j)->¬ j=w1.heap.size:=λ j h e=>by
    subst e;rcases h with h | h | h
    ·omega
    ·obtain⟨_,c,dJ⟩:=Ao IJ.own h;rw[hit]at dJ;cases dJ
    ·obtain⟨_,c,dJ⟩:=Ao IJ.ownq h;rw[hit]at dJ;cases dJ
   have hOW:Po (∀ j,(j=X\/v.ownBlock=some j\/q.ownBlock=some j)->X<=j):=λ j h=>by
    rcases h with h | h | h
    ·omega
    ·have:=(IJ.own.lt j h).1;omega
    ·have:=(IJ.ownq.lt j h).1;omega
   obtain⟨cz,LQ⟩:∃ z:Int,(a.k.toNat:Int)=z:=⟨_,rfl⟩;rw[LQ]at JK n8;obtain⟨wd,o8⟩:∃ x,a.l=x:=⟨_,rfl⟩;rw[o8]at Jp n8;obtain⟨fo,tt⟩:=zn ((BJ ⟨[],0,[],0⟩ (Bv.take (k+1))).f);have xl:=zh tt;have cM:=Gt hit tD nI hS.out.kept hIX;clear ha Ba OU zB nN hit tD JL IJ hT hb hbX hc Mr LQ o8 tt hS nI;go_wp2_with fail;refine n8.out.mono ?_;rintro e w3 ⟨rfl,⟨v',q',dU⟩,k3⟩;have h7:=dU.blk.cell 7;simp at h7;rw[xl.out]at h7;have MW:=zh dU;have tZ:Po (w3.heap[w1.heap.size]? = some (.stringIter (bs kd) (k+1))):=(k3.block _ (Ps.1 cM.out.1).1 (λ h=>cM.out.2.2.1 _ h rfl)).trans cM.out.1;have K3:Po (Kept (λ j=>X<=j) w w3):=(cM.out.2.2.2.1.trans (cM.out.2.1.mono λ i hi h=>by have h:i=w1.heap.size:=h;omega)).trans (k3.mono λ i hi h=>hOW.out i h);clear n8 dU k3 JK Jp;by_cases hf:fo=0
   ·subst hf;have Ci:Po (RsS w X w1.heap.size nm kd Bv (k+1) gn ge rk w3):=⟨⟨v',q',MW.out⟩,tZ.out,K3.out,xl.out⟩;have BH:w3.iterPos w1.heap.size=k+1:=by unfold Pr;rw[tZ.out]
    have uZ:=zh BH;clear tZ K3 MW cM BH;go_wp2_with fail;go_roundw
    case rel=>exact⟨k+1,by omega,Ci⟩
    case measure=>rw[uZ.out,HPW.out];omega
   ·have hkL:k+1=L:=by
     apply Classical.byContradiction;intro Bm;have:=HA.out.2.2.1 (k+1) (by rw[HA.out.2.2.2.2.2.1];omega);rw[xl.out]at this;exact hf this
    have hall:Bv.take (k+1)=Bv:=H_ (by rw[HA.out.2.2.2.2.2.1];omega);have hfb:(fo==0)=false:=beq_eq_false_iff_ne.2 hf;have hfb2:(fo != 0)=true:=by rw[bne_iff_ne];exact hf
    have iv:=BP MW.out K3.out;rw[hall]at iv;clear tZ K3 MW cM hall hkL hf;go_wp2_with fail;rw[Exit.noGoto_normal];go_end0;exact⟨rfl,⟨v',q',iv.out.1⟩,iv.out.2⟩
  ·as_aux_lemma =>
   obtain rfl:k=L:=(by omega);have JK:=Gp wr w1.heap.size kd 0 (by rw[HA.out.2.2.2.2.2.2];exact hS.out.it);have hall:Bv.take k=Bv:=H_ (by rw[HA.out.2.2.2.2.2.1];omega);have iv:=BP hS.out.rd hS.out.kept;rw[hall]at iv;clear hS hall;go_wp2_with fail;rw[Exit.noGoto_normal];go_end0;exact⟨rfl,iv.out⟩
end Go.Proofs.YtepelooebggliaaGreatDoor
