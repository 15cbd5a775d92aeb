/- Walks of functions that the law reaches, and plain laws, part 13 of 21: lemmas for the proof in the last text; no condition. Shortened by program. -/
import Derived.RegionTactic
import Derived.Deep.DeepCutAuto
import Derived.Deep.QuietTactic
import Derived.BigQuiet
import Derived.Great.BuildSlice
import Derived.Deep.AppendLies
import Derived.Test.YtepelooebggliaaGreatDoorSu0
import Derived.Test.YtepelooebggliaaGreatDoorSu3
import Derived.Test.YtepelooebggliaaGreatDoorSu5
import Derived.Test.YtepelooebggliaaGreatDoorSu6
import Derived.Test.YtepelooebggliaaGreatDoorSu11
open Go.Proofs.Tryz renaming prog->A_,ntmps307->B_,func307->C_,results59->D_,underlying40->E_,results93->F_,results57->G_
open Array renaming getElem?_setIfInBounds_ne->H_,getElem?_setIfInBounds_self_of_lt->I_,getElem?_eq_some_iff->J_,size_setIfInBounds->K_
open Go.World renaming setRow->L_,heap->M_,alloc->N_,news_of_block->O_
open Go renaming World->Pa,Calls->Pb,Addr->Pc,Value->Pd
open Go.Instr renaming index->Pe
open Go.Value renaming oneCell'->Pf,string->Pg,slice->Ph
open List renaming getElem?_map->Pj,getElem?_set_ne->Pk,getElem?_cons_succ->Pm,set_cons_succ->Pn,getElem?_cons_zero->Po,take_of_length_le->Pp,length_map->Pq,set_cons_zero->Pr,length_append->Ps,take_add_one->Pt,getElem?_eq_some_iff->Pu,isEmpty_eq_false_iff->Pv,getElem?_take_of_lt->Pw,append_assoc->Px,intercalate->Py,intersperse->Pz,length_cons->PA,map_append->PB
open Go.Lib renaming join->PC
open Go.RowKit renaming Hid->PD
open Option.some renaming injEq->PE
open Nat renaming lt_of_lt_of_le->PF,le_trans->PG,le_succ->PH
open Go.IntKind renaming u64->PI,i64->PJ
open List.Perm renaming swap->PK
set_option maxHeartbeats 16000000
set_option maxRecDepth 100000
set_option linter.unusedVariables false
set_option linter.unusedSimpArgs false
namespace Go.Proofs.YtepelooebggliaaGreatDoor
open Go.RowKit
theorem ie:∀ {l:List Lb} {i j:Nat} {x y:Lb},i≠j->l[i]? = some x->l[j]? = some y->((l.set i y).set j x).Perm l
 | [],i,j,x,y,_,h,_=>by simp at h
 | z::l,0,0,x,y,h,_,_=>absurd rfl h
 | z::l,0,j+1,x,y,_,hi,hj=>by
  simp only[Po,PE]at hi;subst hi;rw[Pm]at hj;simp only[Pr,Pn];exact swap_head l j z y hj
 | z::l,i+1,0,x,y,_,hi,hj=>by
  simp only[Po,PE]at hj;subst hj;rw[Pm]at hi;simp only[Pr,Pn];exact swap_head l i z x hi
 | z::l,i+1,j+1,x,y,h,hi,hj=>by
  rw[Pm]at hi hj;simp only[Pn];exact(ie (by omega) hi hj).cons z
where
 swap_head:∀ (l:List Lb) (j:Nat) (z y:Lb),l[j]? = some y->(y::l.set j z).Perm (z::l)
 | [],j,z,y,h=>by simp at h
 | u::l,0,z,y,h=>by
  simp only[Po,PE]at h;subst h;simp only[Pr];exact PK z u l
 | u::l,j+1,z,y,h=>by
  rw[Pm]at h;simp only[Pn];exact(PK u y _).trans (((swap_head l j z y h).cons u).trans (PK z u l))
def DT (w:Pa) (g m:Nat) (ls:List Lb):Prop:=∃ cur,Am w g 311 cur/\cur.size=m/\∀ i x,ls[i]? = some x->cur[i*3]? = some (i64 x.1)/\cur[i*3+1]? = some (u64 x.2.1)/\cur[i*3+2]? = some (i64 x.2.2)
section
variable {w w':Pa} {g m i:Nat} {ls:List Lb} {x:Lb}
theorem DT.c0 (h:DT w g m ls) (hi:ls[i]? = some x):w.cell? ⟨g,i*3,none⟩=some (i64 x.1):=by
 obtain⟨cur,h,_,hc⟩:=h;rw[h.cell,(hc i x hi).1]
theorem DT.c1 (h:DT w g m ls) (hi:ls[i]? = some x):w.cell? ⟨g,i*3+1,none⟩=some (u64 x.2.1):=by
 obtain⟨cur,h,_,hc⟩:=h;rw[h.cell,(hc i x hi).2.1]
theorem DT.c2 (h:DT w g m ls) (hi:ls[i]? = some x):w.cell? ⟨g,i*3+2,none⟩=some (i64 x.2.2):=by
 obtain⟨cur,h,_,hc⟩:=h;rw[h.cell,(hc i x hi).2.2]
theorem DT.frozen (h:DT w g m ls) (i:Nat):w.frozen? ⟨g,i,none⟩=false:=h.elim λ _ h=>h.1.frozen i
theorem DT.grew (h:DT w g m ls) (k:Ac w w'):DT w' g m ls:=h.imp λ _ h=>⟨h.1.grew k,h.2⟩
def eO (w:Pa) (g i:Nat) (y:Lb):Pa:=((w.setCell ⟨g,i*3,none⟩ (i64 y.1)).setCell ⟨g,i*3+1,none⟩ (u64 y.2.1)).setCell ⟨g,i*3+2,none⟩ (i64 y.2.2)
theorem MJ (w:Pa) (g i:Nat) (y:Lb):Kept (·=g) w (eO w g i y) :=
 (((zr (·=g) w).setCell (p:=⟨g,i*3,none⟩) (.inl rfl) _).setCell (p:=⟨g,i*3+1,none⟩) (.inl rfl) _).setCell (p:=⟨g,i*3+2,none⟩) (.inl rfl) _
theorem DT.set (h:DT w g m ls) (hi:ls[i]? = some x) (y:Lb):DT (eO w g i y) g m (ls.set i y):=by
 obtain⟨cur,h,hm,hc⟩:=h;refine⟨_,((h.set (i*3) (i64 y.1)).set (i*3+1) (u64 y.2.1)).set (i*3+2) (i64 y.2.2),by simp[hm],λ j z hz=>?_⟩;by_cases hji:i=j
 ·subst hji;rw[List.getElem?_set_self (Pu.1 hi).1]at hz;cases hz;have h0:=hc i x hi;have s0:=(J_.1 h0.1).1;have s1:=(J_.1 h0.2.1).1;have s2:=(J_.1 h0.2.2).1;refine⟨?_,?_,?_⟩
  ·rw[H_ (by omega),H_ (by omega),I_ s0]
  ·rw[H_ (by omega),I_ (by rw[K_];exact s1)]
  ·rw[I_ (by simp only[K_];exact s2)]
 ·rw[Pk hji]at hz;have h0:=hc j z hz;refine⟨?_,?_,?_⟩
  ·rw[H_ (by omega),H_ (by omega),H_ (by omega)];exact h0.1
  ·rw[H_ (by omega),H_ (by omega),H_ (by omega)];exact h0.2.1
  ·rw[H_ (by omega),H_ (by omega),H_ (by omega)];exact h0.2.2
end
theorem CJ.turn {w w':Pa} {B g n cap:Nat} {ls:List Lb} (h:CJ w B (.slice (some ⟨g,0,none⟩) n cap) ls):∃ m,DT w g m ls/\∀ w' Er,Er.length=ls.length->DT w' g m Er->CJ w' B (.slice (some ⟨g,0,none⟩) n cap) Er:=by
 rcases h.2 with ⟨hv,_⟩ | ⟨g',sM,cur,hv,hb,hg,Bg,hm,Df,LW⟩
 ·cases hv
 ·injection hv with e1 e2 e3;injection e1 with e1;injection e1 with e1;subst e1 e3;refine⟨cur.size,⟨cur,hg,rfl,λ i x hx=>?_⟩,λ w' Er hl hr=>?_⟩
  ·have hi:=(Pu.1 hx).1;have key:∀ j,j<3->cur[i*3+j]? = (py x)[j]? := λ j hj=>by
    have h1:=EY ls i j x hx hj
    rw[<- LW,Pw (by omega)]at h1
    rw[<- h1];simp
   exact⟨key 0 (by omega),key 1 (by omega),key 2 (by omega)⟩
  ·obtain⟨GC,Lx,Ib,yC⟩:=hr;refine⟨by rw[J2],.inr ⟨g,cap,GC,by rw[hl,<-e2],hb,Lx,by omega,hm,by omega,?_⟩⟩;refine List.ext_getElem? λ k=>?_;by_cases hk:k<Er.length*3
   ·rw[Pw hk];obtain⟨x,hx⟩:=zx (l:=Er) (i:=k/3) (by omega);have h0:=yC (k/3) x hx;have h1:=EY Er (k/3) (k%3) x hx (by omega);rw[show k/3*3+k%3=k by omega]at h1;rw[h1,Array.getElem?_toList];obtain⟨r,hr⟩:=zn (k%3);have zj:r<3:=(by omega);rw[hr];match r,zj,hr with
    | 0,_,hr=>rw[show GC[k]? = GC[k/3*3]? by congr 1;omega];exact h0.1
    | 1,_,hr=>rw[show GC[k]? = GC[k/3*3+1]? by congr 1;omega];exact h0.2.1
    | 2,_,hr=>rw[show GC[k]? = GC[k/3*3+2]? by congr 1;omega];exact h0.2.2
   ·rw[List.getElem?_take_eq_none (by omega),List.getElem?_eq_none (by rw[J2];omega)]
theorem gC (x:Int) (w:Pa):Pb A_ 425 #[.int .i64 x] w λ e w'=>e=.returned (.bool false)/\w=w':=by
 go_enter Tryz.func425,Tryz.ntmps425;go_wp2_with fail;go_ret;exact⟨rfl,rfl⟩
theorem OE (x y:Int) (w:Pa):Pb A_ 357 #[.int .i64 x,.int .i64 y] w λ e w'=>(∃ c,e=.returned (i64 c))/\w=w':=by
 have hx:=zh (gC x w);have hy:=zh (gC y w);have key:∀ b1 b2:Bool,decide (x<y)=b1->decide (y<x)=b2->Pb A_ 357 #[.int .i64 x,.int .i64 y] w λ e w'=>(∃ c,e=.returned (i64 c))/\w=w':=by
  intro b1 b2 h1 h2;cases b1<;>cases b2 <;>
  ·go_enter Tryz.func357,Tryz.ntmps357;go_wp2_with fail;refine hx.out.mono ?_;rintro e w1 ⟨rfl,rfl⟩;go_wp2_with fail;refine hy.out.mono ?_;rintro e w1 ⟨rfl,rfl⟩;go_wp2_with fail;go_ret;exact⟨⟨_,rfl⟩,rfl⟩
 exact key _ _ rfl rfl
theorem jX (a b:Lb) (w:Pa):Pb A_ 356 #[.agg #[i64 a.1,u64 a.2.1,i64 a.2.2],.agg #[i64 b.1,u64 b.2.1,i64 b.2.2]] w λ e w'=>(∃ c,e=.returned (i64 c))/\Ac w w':=by
 have HC:=zh (λ W=>OE a.1 b.1 W);go_enter Tryz.func356,Tryz.ntmps356;go_wp2_with fail;refine(HC.out _).mono ?_;rintro e w1 ⟨⟨c,rfl⟩,rfl⟩;go_wp2_with fail;go_ret;exact⟨⟨_,rfl⟩,((zr _ _).alloc _).alloc _⟩
def NX:List ByteArray:=[⟨#[111,107]⟩,⟨#[98,97,100,97,114,103]⟩,⟨#[114,97,110,103,101]⟩,⟨#[115,121,110,116,97,120]⟩,⟨#[102,111,114,109]⟩,⟨#[116,111,111,98,105,103]⟩,⟨#[111,118,101,114,102,108,111,119]⟩,⟨#[110,111,110,111,100,101]⟩,⟨#[110,111,101,100,103,101]⟩,⟨#[110,111,112,97,116,104]⟩,⟨#[117,110,107,110,111,119,110]⟩,⟨#[110,111,103,114,97,112,104]⟩,⟨#[110,111,98,117,105,108,100]⟩,⟨#[115,116,97,108,101]⟩,⟨#[99,108,111,115,101,100]⟩]
def wd (k:Nat):ByteArray:=NX.getD k ⟨#[]⟩
def wA:Array Pd:=#[.string ⟨#[111,107]⟩,.string ⟨#[98,97,100,97,114,103]⟩,.string ⟨#[114,97,110,103,101]⟩,.string ⟨#[115,121,110,116,97,120]⟩,.string ⟨#[102,111,114,109]⟩,.string ⟨#[116,111,111,98,105,103]⟩,.string ⟨#[111,118,101,114,102,108,111,119]⟩,.string ⟨#[110,111,110,111,100,101]⟩,.string ⟨#[110,111,101,100,103,101]⟩,.string ⟨#[110,111,112,97,116,104]⟩,.string ⟨#[117,110,107,110,111,119,110]⟩,.string ⟨#[110,111,103,114,97,112,104]⟩,.string ⟨#[110,111,98,117,105,108,100]⟩,.string ⟨#[115,116,97,108,101]⟩,.string ⟨#[99,108,111,115,101,100]⟩]
def wV:Pd:=.agg wA
theorem Ge (w:Pa):Pb A_ 85 #[] w λ e w'=>e=.returned wV/\Ac w w':=by
 go_enter Tryz.func85,Tryz.ntmps85;go_wp2_with fail;exact zy (v:=.agg #[.string ⟨#[111,107]⟩,.string ⟨#[98,97,100,97,114,103]⟩,.string ⟨#[114,97,110,103,101]⟩,.string ⟨#[115,121,110,116,97,120]⟩,.string ⟨#[102,111,114,109]⟩,.string ⟨#[116,111,111,98,105,103]⟩,.string ⟨#[111,118,101,114,102,108,111,119]⟩,.string ⟨#[110,111,110,111,100,101]⟩,.string ⟨#[110,111,101,100,103,101]⟩,.string ⟨#[110,111,112,97,116,104]⟩,.string ⟨#[117,110,107,110,111,119,110]⟩,.string ⟨#[110,111,103,114,97,112,104]⟩,.string ⟨#[110,111,98,117,105,108,100]⟩,.string ⟨#[115,116,97,108,101]⟩,.string ⟨#[99,108,111,115,101,100]⟩]) (by simp[results,Tryz.results85,go_sem]) rfl ⟨rfl,(zr _ _).alloc _⟩
def zP (f:Int):Bool:=decide (0<=f/\f<15)
theorem GA (f:Int) (w:Pa):Pb A_ 51 #[i64 f] w λ e w'=>e=.returned (.bool (zP f))/\Ac w w':=by
 have hW:=zh Ge;rcases Int.lt_or_le f 0 with h | h
 ·have hb:zP f=false:=zf (by omega);rw[hb];have d0:decide (0<=f)=false:=zf (by omega);clear hb;go_enter Tryz.func51,Tryz.ntmps51;go_wp2_with fail;go_ret;exact⟨rfl,zr _ _⟩
 ·obtain⟨bb,hb⟩:=zn (zP f);rw[hb];have d1:decide (f<15)=bb:=by rw[<- hb];unfold zP;congr 1;simp[h]
  have d0:decide (0<=f)=true:=zt h;clear hb;cases bb;all_goals
   go_enter Tryz.func51,Tryz.ntmps51
   go_wp2_with fail
   refine(hW.out _).mono ?_
   rintro r w1 ⟨rfl,k1⟩
   go_wp2_with fail
   go_ret
   exact⟨rfl,k1⟩
theorem zAr (w:Pa):(Pe 151 wV (.int .i64 0)).run A_ w=.ok (.string (wd 0)) w:=by kernel_rfl
theorem zAs (w:Pa):(Pe 151 wV (.int .i64 1)).run A_ w=.ok (.string (wd 1)) w:=by kernel_rfl
theorem zAt (w:Pa):(Pe 151 wV (.int .i64 2)).run A_ w=.ok (.string (wd 2)) w:=by kernel_rfl
theorem zAu (w:Pa):(Pe 151 wV (.int .i64 3)).run A_ w=.ok (.string (wd 3)) w:=by kernel_rfl
theorem zAv (w:Pa):(Pe 151 wV (.int .i64 4)).run A_ w=.ok (.string (wd 4)) w:=by kernel_rfl
theorem zAw (w:Pa):(Pe 151 wV (.int .i64 5)).run A_ w=.ok (.string (wd 5)) w:=by kernel_rfl
theorem zAx (w:Pa):(Pe 151 wV (.int .i64 6)).run A_ w=.ok (.string (wd 6)) w:=by kernel_rfl
theorem zAy (w:Pa):(Pe 151 wV (.int .i64 7)).run A_ w=.ok (.string (wd 7)) w:=by kernel_rfl
theorem zAz (w:Pa):(Pe 151 wV (.int .i64 8)).run A_ w=.ok (.string (wd 8)) w:=by kernel_rfl
theorem zAA (w:Pa):(Pe 151 wV (.int .i64 9)).run A_ w=.ok (.string (wd 9)) w:=by kernel_rfl
theorem xR (w:Pa):(Pe 151 wV (.int .i64 10)).run A_ w=.ok (.string (wd 10)) w:=by kernel_rfl
theorem xS (w:Pa):(Pe 151 wV (.int .i64 11)).run A_ w=.ok (.string (wd 11)) w:=by kernel_rfl
theorem xT (w:Pa):(Pe 151 wV (.int .i64 12)).run A_ w=.ok (.string (wd 12)) w:=by kernel_rfl
theorem xU (w:Pa):(Pe 151 wV (.int .i64 13)).run A_ w=.ok (.string (wd 13)) w:=by kernel_rfl
theorem xV (w:Pa):(Pe 151 wV (.int .i64 14)).run A_ w=.ok (.string (wd 14)) w:=by kernel_rfl
theorem M6 (k:Nat) (hk:k<15) (w:Pa):Pb A_ 67 #[i64 (k:Int)] w λ e w'=>e=.returned (.string (wd k))/\Ac w w':=by
 have hW:=zh Ge;have hI:=zh (λ W=>GA (k:Int) W);have yK:∀ W,(Pe 151 wV (.int .i64 (k:Int))).run A_ W=.ok (.string (wd k)) W:=by
  intro W;match k,hk with
  | 0,_=>exact zAr W
  | 1,_=>exact zAs W
  | 2,_=>exact zAt W
  | 3,_=>exact zAu W
  | 4,_=>exact zAv W
  | 5,_=>exact zAw W
  | 6,_=>exact zAx W
  | 7,_=>exact zAy W
  | 8,_=>exact zAz W
  | 9,_=>exact zAA W
  | 10,_=>exact xR W
  | 11,_=>exact xS W
  | 12,_=>exact xT W
  | 13,_=>exact xU W
  | 14,_=>exact xV W
 have hb:zP (k:Int)=true:=zt (by omega);rw[hb]at hI;clear hb;go_enter Tryz.func67,Tryz.ntmps67;go_wp2_with fail;refine(hI.out _).mono ?_;rintro r w1 ⟨rfl,k1⟩;go_wp2_with fail;refine(hW.out _).mono ?_;rintro r w2 ⟨rfl,k2⟩;go_wp2_with fail;go_ret;exact⟨rfl,k1.trans k2⟩
def Bx (k:Int):Pd:=.agg #[i64 k,.string ⟨#[]⟩,.slice none 0 0,.slice none 0 0,.slice none 0 0]
theorem D7 (k:Nat) (hk:1<=k/\k<15) (w:Pa):Pb A_ 33 #[i64 (k:Int)] w λ e w'=>e=.returned (Bx k)/\Ac w w':=by
 have hI:=zh (λ W=>GA (k:Int) W);have hb:zP (k:Int)=true:=zt (by omega);rw[hb]at hI;have Fj:((k:Int)==0)=false:=by simp;omega
 clear hb;go_enter Tryz.func33,Tryz.ntmps33;go_wp2_with fail;refine(hI.out _).mono ?_;rintro r w1 ⟨rfl,k1⟩;have b1:=(zv w 42 #[i64 0,.string ⟨#[]⟩,.slice none 0 0,.slice none 0 0,.slice none 0 0]).grew k1;have kk:Ac w w1:=((zr _ _).alloc _).trans k1;have HB:=zh b1;have t6:=b1.setRow #[i64 k,.string ⟨#[]⟩,.slice none 0 0,.slice none 0 0,.slice none 0 0];obtain⟨r0,r1,r2,r3,r4⟩:=LF t6;have HF:PD (Ac w (w1.setRow w.heap.size #[i64 k,.string ⟨#[]⟩,.slice none 0 0,.slice none 0 0,.slice none 0 0])):=kk.setRow (.inr (zl _)) _;clear b1 k1 kk t6;go_wp2_with (refine wpList_store_rowTo rfl 42 (.tmp 2) (.tmp 11) rfl rfl w.heap.size #[i64 k,.string ⟨#[]⟩,.slice none 0 0,.slice none 0 0,.slice none 0 0] (by rfl) (by rfl) 42 _ HB.out (by kernel_rfl) rfl (AF (by simp[Pf])) ?_);go_wp2_with fail;exact zy (v:=Bx k) (by simp[results,Tryz.results33,go_sem,r0,r1,r2,r3,r4,Bx]) rfl ⟨rfl,HF.out⟩
theorem Nu (g m N cap:Nat) (ls:List Lb) (w:Pa) (h:DT w g m ls) (hl:ls.length=N) (hN:N<=12) :
  Pb A_ 459 #[.slice (some ⟨g,0,none⟩) N cap,i64 0,i64 N,.func (.func 356) #[] #[]] w λ e w'=>(∃ q,e=.returned q)/\∃ Er,Er.Perm ls/\DT w' g m Er/\Kept (·=g) w w':=by
 have vI:PD (DT w g m ls/\Kept (·=g) w w/\ls.Perm ls/\ls.length=N):=⟨h,zr _ _,.refl _,hl⟩
 clear h hl
 go_enter Tryz.func459,Tryz.ntmps459
 go_wp2_with fail
 go_loopw [8,9] (λ i _ wr=>∃ (x:Nat) (Er:List Lb),(1<=x/\x<=N+1)/\i=.int .i64 x/\PD (DT wr g m Er/\Kept (·=g) w wr/\Er.Perm ls/\Er.length=N)) (λ i _ _=>N-(intOf i).toNat)
 case atStart=>exact⟨1,ls,⟨by omega,by omega⟩,rfl,vI⟩
 case round =>
  clear vI;obtain⟨x,Er,⟨yu,zI⟩,rfl,hS⟩:=hrel;by_cases AH:x<N
  ·have l1:(x:Int)<(N:Int):=(by omega);go_wp2_with fail;go_loopw [9] (λ j wr=>∃ (y:Nat) (Er:List Lb),y<=x/\j=.int .i64 y/\PD (DT wr g m Er/\Kept (·=g) w wr/\Er.Perm ls/\Er.length=N)) (λ j _=>(intOf j).toNat)
   case atStart=>exact⟨x,Er,zl _,rfl,hS⟩
   case round =>
    clear hS;obtain⟨y,Er,pb,rfl,hS⟩:=hrel;rcases Nat.eq_zero_or_pos y with rfl | hg
    ·go_upto_region 4 with fail;refine rG [] (λ _=>False) ?_;refine pG 0 18 ?_;refine pG 1 19 ?_;refine pG 2 20 ?_;refine pG 3 21 ?_;refine qG 4 22 ?_;refine qG 5 23 ?_;refine qG 6 24 ?_;refine qG 7 25 ?_;refine qG 8 26 ?_;refine qG 9 27 ?_;refine qG 10 28 ?_;refine qG 11 29 ?_;refine qG 12 30 ?_;refine qG 13 31 ?_;refine qG 14 32 ?_;refine qG 15 33 ?_;refine pG 16 34 ?_;refine dG ?_;go_wp2_with fail;go_roundw
     case rel=>exact⟨x+1,Er,⟨by omega,by omega⟩,by go_num,(show PD (_/\_/\_/\_) from ⟨hS.out.1.grew (zr _ _).drew,hS.out.2.1.drew,hS.out.2.2⟩)⟩
     case measure=>simp[intOf];omega
    ·have g1:(0:Int)<(y:Int):=(by omega);obtain⟨p,hp⟩:=zn (y-1);have ep:(y:Int)-1=(p:Int):=(by omega);have wp:PJ.wrap (p:Int)=(p:Int):=Go.IntWalk.i64_in _ (by omega);have i0:(0:Int)<=(y:Int):=(by omega);have i1:(y:Int)<(N:Int):=(by omega);have j0:(0:Int)<=(p:Int):=(by omega);have j1:(p:Int)<(N:Int):=(by omega);obtain⟨⟨a1,a2,a3⟩,hy⟩:∃ q,Er[y]? = some q:=⟨_,zq (by rw[hS.out.2.2.2];omega)⟩;obtain⟨⟨b1,b2,b3⟩,hq⟩:∃ q,Er[p]? = some q:=⟨_,zq (by rw[hS.out.2.2.2];omega)⟩;have x0:=hS.out.1.c0 hy;have x1:=hS.out.1.c1 hy;have x2:=hS.out.1.c2 hy;have x3:=hS.out.1.c0 hq;have x4:=hS.out.1.c1 hq;have x5:=hS.out.1.c2 hq;simp only at x0 x1 x2 x3 x4 x5;have hC:=zh (λ W=>jX (a1,a2,a3) (b1,b2,b3) W);simp only at hC;have HY:=BP hy hq;have hpy:p<y:=(by omega);have Fv:p<=x:=(by omega);clear hy hq hp;go_upto_region 4 with fail;refine rG [] (λ _=>False) ?_;refine pG 0 18 ?_;refine pG 1 19 ?_;refine pG 2 20 ?_;refine pG 3 21 ?_;refine pG 4 22 ?_;refine pG 5 23 ?_;refine pG 6 24 ?_;refine pG 7 25 ?_;refine tG 8 26 (y:=λ w' Ah=>by have AM:=ze Ah (show wr.drew.cell? _=_ from x0);have AX:=ze Ah (show wr.drew.cell? _=_ from x1);have CN:=ze Ah (show wr.drew.cell? _=_ from x2);have pa:=ze Ah (show wr.drew.cell? _=_ from x3);have hx4:=ze Ah (show wr.drew.cell? _=_ from x4);have hx5:=ze Ah (show wr.drew.cell? _=_ from x5);go_simp<;>with_reducible rfl) (h:=?_);refine pG 9 27 ?_;refine pG 10 28 ?_;refine pG 11 29 ?_;refine pG 12 30 ?_;refine tG 13 31 (y:=λ w' Ah=>by have AM:=ze Ah (show wr.drew.cell? _=_ from x0);have AX:=ze Ah (show wr.drew.cell? _=_ from x1);have CN:=ze Ah (show wr.drew.cell? _=_ from x2);have pa:=ze Ah (show wr.drew.cell? _=_ from x3);have hx4:=ze Ah (show wr.drew.cell? _=_ from x4);have hx5:=ze Ah (show wr.drew.cell? _=_ from x5);go_simp<;>with_reducible rfl) (h:=?_);refine sG 14 32 (λ K Aj=>?_);go_simp;refine(hC.out _).mono ?_;rintro e w2 ⟨⟨c,rfl⟩,k2⟩;refine Aj _ _ (λ _=>k2) ?_;clear Aj;simp only[sA];refine pG 15 33 ?_;refine pG 16 34 ?_;refine dG ?_;have Ng:=zh ((hS.out.1.grew (zr (λ _=>False) wr).drew).grew k2);have fD:=zh ((hS.out.2.1.drew).trans (k2.kept (F:=(·=g))));clear x0 x1 x2 x3 x4 x5 hC;rcases Int.lt_or_le c 0 with hc | hc
     ·have dc:decide (c<0)=true:=zt hc;have x0:=Ng.out.c0 HY.out.1;have x1:=Ng.out.c1 HY.out.1;have x2:=Ng.out.c2 HY.out.1;have x3:=Ng.out.c0 HY.out.2;have x4:=Ng.out.c1 HY.out.2;have x5:=Ng.out.c2 HY.out.2;simp only at x0 x1 x2 x3 x4 x5;have fK:=Ng.out.set HY.out.1 (b1,b2,b3);have Lw:PD (DT (eO (eO w2 g y (b1,b2,b3)) g p (a1,a2,a3)).drew g m ((Er.set y (b1,b2,b3)).set p (a1,a2,a3))/\Kept (·=g) w (eO (eO w2 g y (b1,b2,b3)) g p (a1,a2,a3)).drew/\((Er.set y (b1,b2,b3)).set p (a1,a2,a3)).Perm ls/\((Er.set y (b1,b2,b3)).set p (a1,a2,a3)).length=N) :=
       ⟨(fK.set (x:=(b1,b2,b3)) (by rw[Pk (by omega)];exact HY.out.2) (a1,a2,a3)).grew (zr _ _).drew,((fD.out.trans (MJ _ _ _ _)).trans (MJ _ _ _ _)).drew,
        (ie (by omega) HY.out.1 HY.out.2).trans hS.out.2.2.1,by simp[hS.out.2.2.2]⟩
      have z0:=Ng.out.frozen (y*3);have z1:=Ng.out.frozen (y*3+1);have z2:=Ng.out.frozen (y*3+2);have y0:=fK.frozen (p*3);have y1:=fK.frozen (p*3+1);have y2:=fK.frozen (p*3+2);have u0:=fK.c0 (i:=p) (x:=(b1,b2,b3)) (by rw[Pk (by omega)];exact HY.out.2);have u1:=fK.c1 (i:=p) (x:=(b1,b2,b3)) (by rw[Pk (by omega)];exact HY.out.2);have u2:=fK.c2 (i:=p) (x:=(b1,b2,b3)) (by rw[Pk (by omega)];exact HY.out.2);unfold eO at Lw y0 y1 y2 u0 u1 u2;simp only at Lw y0 y1 y2 u0 u1 u2;clear fK fD Ng hS HY;go_upto_region 6 with fail;simp only[dc];refine rG [15,17] (λ _=>False) ?_;refine pG 0 37 ?_;refine pG 1 38 ?_;refine pG 2 39 ?_;refine pG 3 40 ?_;refine pG 4 41 ?_;refine pG 5 42 ?_;refine pG 6 43 ?_;refine pG 7 44 ?_;refine pG 8 45 ?_;refine tG 9 46 (y:=λ w' Ah=>by have AM:=ze Ah (show w2.drew.cell? _=_ from x0);have AX:=ze Ah (show w2.drew.cell? _=_ from x1);have CN:=ze Ah (show w2.drew.cell? _=_ from x2);have pa:=ze Ah (show w2.drew.cell? _=_ from x3);have hx4:=ze Ah (show w2.drew.cell? _=_ from x4);have hx5:=ze Ah (show w2.drew.cell? _=_ from x5);go_simp<;>with_reducible rfl) (h:=?_);refine pG 10 47 ?_;refine pG 11 48 ?_;refine pG 12 49 ?_;refine tG 13 50 (y:=λ w' Ah=>by have AM:=ze Ah (show w2.drew.cell? _=_ from x0);have AX:=ze Ah (show w2.drew.cell? _=_ from x1);have CN:=ze Ah (show w2.drew.cell? _=_ from x2);have pa:=ze Ah (show w2.drew.cell? _=_ from x3);have hx4:=ze Ah (show w2.drew.cell? _=_ from x4);have hx5:=ze Ah (show w2.drew.cell? _=_ from x5);go_simp<;>with_reducible rfl) (h:=?_);refine pG 14 51 ?_;refine DH 15 (λ K Aj=>?_);go_simp;refine Aj _ (λ h=>absurd (by simp) h) ?_;clear Aj;refine pG 16 52 ?_;refine DH 17 (λ K Aj=>?_);go_simp;refine Aj _ (λ h=>absurd (by simp) h) ?_;clear Aj;refine dG ?_;go_wp2_with fail;go_roundw
      case rel=>exact⟨p,_,Fv,by go_num,Lw⟩
      case measure=>simp[intOf];omega
     ·have dc:decide (c<0)=false:=zf (by omega);have Lw:PD (DT w2 g m Er/\Kept (·=g) w w2/\Er.Perm ls/\Er.length=N):=⟨Ng.out,fD.out,hS.out.2.2⟩;clear Ng fD hS;go_wp2_with fail;go_roundw
      case rel=>exact⟨x+1,Er,⟨by omega,by omega⟩,by go_num,Lw⟩
      case measure=>simp[intOf];omega
  ·have l1:¬ ((x:Int)<(N:Int)):=(by omega);have Lw:=hS.out;clear hS;go_wp2_with fail;go_end0;exact⟨⟨_,rfl⟩,Er,Lw.2.2.1,Lw.1,Lw.2.1⟩
theorem j7 (x:Nat) (hx:x<13) (w:Pa):Pb A_ 307 #[.int .u64 x] w λ e w'=>(∃ k,e=.returned (i64 k))/\w=w':=by
 match x,hx with
 | 0,_ =>
  go_enter C_,B_;go_wp2_with fail;go_ret;exact⟨⟨_,rfl⟩,rfl⟩
 | 1,_ =>
  go_enter C_,B_;go_wp2_with fail;go_ret;exact⟨⟨_,rfl⟩,rfl⟩
 | 2,_ =>
  go_enter C_,B_;go_wp2_with fail;go_ret;exact⟨⟨_,rfl⟩,rfl⟩
 | 3,_ =>
  go_enter C_,B_;go_wp2_with fail;go_ret;exact⟨⟨_,rfl⟩,rfl⟩
 | 4,_ =>
  go_enter C_,B_;go_wp2_with fail;go_ret;exact⟨⟨_,rfl⟩,rfl⟩
 | 5,_ =>
  go_enter C_,B_;go_wp2_with fail;go_ret;exact⟨⟨_,rfl⟩,rfl⟩
 | 6,_ =>
  go_enter C_,B_;go_wp2_with fail;go_ret;exact⟨⟨_,rfl⟩,rfl⟩
 | 7,_ =>
  go_enter C_,B_;go_wp2_with fail;go_ret;exact⟨⟨_,rfl⟩,rfl⟩
 | 8,_ =>
  go_enter C_,B_;go_wp2_with fail;go_ret;exact⟨⟨_,rfl⟩,rfl⟩
 | 9,_ =>
  go_enter C_,B_;go_wp2_with fail;go_ret;exact⟨⟨_,rfl⟩,rfl⟩
 | 10,_ =>
  go_enter C_,B_;go_wp2_with fail;go_ret;exact⟨⟨_,rfl⟩,rfl⟩
 | 11,_ =>
  go_enter C_,B_;go_wp2_with fail;go_ret;exact⟨⟨_,rfl⟩,rfl⟩
 | 12,_ =>
  go_enter C_,B_;go_wp2_with fail;go_ret;exact⟨⟨_,rfl⟩,rfl⟩
theorem mZ (x:Nat) (hx:x<13) (w:Pa):Pb A_ 337 #[.int .u64 x] w λ e w'=>(∃ k,e=.returned (i64 k))/\w=w':=by
 have H:=zh (j7 x hx w);go_enter Tryz.func337,Tryz.ntmps337;go_wp2_with fail;refine H.out.mono ?_;rintro e w1 ⟨⟨k,rfl⟩,rfl⟩;go_wp2_with fail;go_ret;exact⟨⟨_,rfl⟩,rfl⟩
theorem zZ (g m N cap:Nat) (k:Int) (ls:List Lb) (w:Pa) (h:DT w g m ls) (hl:ls.length=N) (hN:N<=12) :
  Pb A_ 424 #[.slice (some ⟨g,0,none⟩) N cap,i64 0,i64 N,i64 k,.func (.func 356) #[] #[]] w λ e w'=>(∃ q,e=.returned q)/\∃ Er,Er.Perm ls/\DT w' g m Er/\Kept (·=g) w w':=by
 have H:=zh (Nu g m N cap ls w h hl hN)
 have d1:decide ((N:Int)<=12)=true:=zt (by omega)
 have d2:decide (N<=12)=true:=zt hN
 clear h hl
 go_enter Tryz.func424,Tryz.ntmps424
 go_wp2_with fail
 go_loopw [1,2] (λ a i wr=>a=.int .i64 0/\i=.int .i64 N/\w=wr) (λ _ _ _=>0)
 case atStart=>exact⟨rfl,rfl,rfl⟩
 case round =>
  obtain⟨rfl,rfl,rfl⟩:=hrel;go_wp2_with fail;refine H.out.mono ?_;rintro e w1 ⟨⟨q,rfl⟩,h1⟩;go_wp2_with fail;refine zy (results_none rfl _ _ _) rfl ?_;exact⟨⟨_,rfl⟩,h1⟩
theorem LX (w:Pa):Pb A_ 459 #[.slice none 0 0,i64 0,i64 0,.func (.func 356) #[] #[]] w λ e w'=>(∃ q,e=.returned q)/\w=w':=by
 go_enter Tryz.func459,Tryz.ntmps459;go_wp2_with fail;go_loopw [8,9] (λ i _ wr=>i=.int .i64 1/\w=wr) (λ i _ _=>0)
 case atStart=>exact⟨rfl,rfl⟩
 case round =>
  obtain⟨rfl,rfl⟩:=hrel;go_wp2_with fail;go_end0;exact⟨⟨_,rfl⟩,rfl⟩
theorem uA (k:Int) (w:Pa):Pb A_ 424 #[.slice none 0 0,i64 0,i64 0,i64 k,.func (.func 356) #[] #[]] w λ e w'=>(∃ q,e=.returned q)/\w=w':=by
 have H:=zh (LX w);go_enter Tryz.func424,Tryz.ntmps424;go_wp2_with fail;go_loopw [1,2] (λ a i wr=>a=.int .i64 0/\i=.int .i64 0/\w=wr) (λ _ _ _=>0)
 case atStart=>exact⟨rfl,rfl,rfl⟩
 case round =>
  obtain⟨rfl,rfl,rfl⟩:=hrel;go_wp2_with fail;refine H.out.mono ?_;rintro e w1 ⟨⟨q,rfl⟩,h1⟩;go_wp2_with fail;refine zy (results_none rfl _ _ _) rfl ?_;exact⟨⟨_,rfl⟩,h1⟩
theorem uJ (B:Nat) (vo:Pd) (ls:List Lb) (w:Pa) (h:CJ w B vo ls) (hN:ls.length<=12) :
  Pb A_ 355 #[vo,.func (.func 356) #[] #[]] w λ e w'=>(∃ q,e=.returned q)/\∃ Er,Er.Perm ls/\CJ w' B vo Er/\Kept (λ j=>vo.ownBlock=some j) w w':=by
 obtain⟨A,c,rfl⟩:=Ap h
 obtain⟨N,hl⟩:=zn (ls.length)
 have HB:=zh (λ W=>mZ N (by omega) W)
 rcases A with _ | ⟨g,o,x⟩
 ·obtain⟨h0,hc⟩:N=0/\c=0:=by
   rcases h.2 with ⟨hv,h0⟩ | ⟨g,_,_,hv,_⟩
   ·injection hv with _ e2 e3;exact⟨by omega,e3⟩
   ·cases hv
  subst h0 hc;have HP:=zh (λ k=>uA k w);have HK:=zh h;rw[hl]at HK ⊢;clear h hl;go_enter Tryz.func355,Tryz.ntmps355;go_wp2_with fail;refine(HB.out _).mono ?_;rintro e w1 ⟨⟨k,rfl⟩,rfl⟩;go_wp2_with fail;refine(HP.out _).mono ?_;rintro e w2 ⟨⟨q,rfl⟩,rfl⟩;go_wp2_with fail;go_end0;exact⟨⟨_,rfl⟩,ls,.refl _,HK.out,zr _ _⟩
 ·obtain⟨rfl,rfl⟩:o=0/\x=none:=by
   rcases h.2 with ⟨hv,_⟩ | ⟨g,_,_,hv,_⟩
   ·cases hv
   ·cases hv;exact⟨rfl,rfl⟩
  obtain⟨m,hr,OS⟩:=CJ.turn h (w':=w);rw[hl]at hN;have HP:=zh (λ k=>zZ g m N c k ls w hr hl hN);have HK:=zh OS;rw[hl]at HK ⊢;have HL:=zh hl;clear h hr OS hl;go_enter Tryz.func355,Tryz.ntmps355;go_wp2_with fail;refine(HB.out _).mono ?_;rintro e w1 ⟨⟨k,rfl⟩,rfl⟩;go_wp2_with fail;refine(HP.out _).mono ?_;rintro e w2 ⟨⟨q,rfl⟩,Er,hp,hr,hk⟩;go_wp2_with fail;go_end0;exact⟨⟨_,rfl⟩,Er,hp,HK.out _ _ (by rw[hp.length_eq,HL.out]) hr,hk.mono (λ j _ hj=>by rw[hj];rfl)⟩
structure Cm where
 nm:List UInt8
 ai:Option Pc
 ni:Nat
 ci:Nat
 wv:Int
 aq:Option Pc
 nq:Nat
 cq:Nat
 gn:Int
 ag:Option Pc
 ng:Nat
 cg:Nat
 ar:Option Pc
 nr:Nat
 cr:Nat
abbrev CV (c:Cm):Pd:=.agg #[str c.nm,.slice c.ai c.ni c.ci,u64 c.wv,.slice c.aq c.nq c.cq,i64 c.gn,.slice c.ag c.ng c.cg,.slice c.ar c.nr c.cr]
abbrev Co (f:Int) (nm:List UInt8) (A:Option Pc) (n c:Nat) (A2:Option Pc) (n2 c2:Nat):Pd:=.agg #[i64 f,str nm,.slice A n c,.slice A2 n2 c2,.slice none 0 0]
def Au (w:Pa) (X Y B:Nat) (hops settles:Int) (ph N:Nat) (es:List AB) (hx:Option Hx):Prop:=∃ left done,SvB w X Y left done/\BN w Y B hops settles ph N es hx/\X≠Y/\X<B/\Y<B
theorem Au.kept {F:Nat->Prop} {w w':Pa} {X Y B:Nat} {hops settles:Int} {ph N:Nat} {es:List AB} {hx:Option Hx} (h:Au w X Y B hops settles ph N es hx) (g:Kept F w w') (hX:¬ F X) (hY:¬ F Y) (hF:∀ j,B<=j->¬ F j):Au w' X Y B hops settles ph N es hx:=by
 obtain⟨left,done,h1,h2,h3⟩:=h;exact⟨left,done,Am.kept h1 g hX,h2.kept g hY hF,h3⟩
theorem Au.grew {w w':Pa} {X Y B:Nat} {hops settles:Int} {ph N:Nat} {es:List AB} {hx:Option Hx} (h:Au w X Y B hops settles ph N es hx) (g:Ac w w'):Au w' X Y B hops settles ph N es hx:=h.kept g (λ h=>h) (λ h=>h) (λ _ _ h=>h)
theorem Au.turn {w w':Pa} {X Y B:Nat} {hops settles:Int} {ph N wQ N':Nat} {es D8:List AB} {hx Fk:Option Hx} (h:Au w X Y B hops settles ph N es hx) (g:Kept (λ j=>j=Y) w w') (hs:BN w' Y B hops settles wQ N' D8 Fk):Au w' X Y B hops settles wQ N' D8 Fk:=by
 obtain⟨left,done,h1,h2,h3⟩:=h;exact⟨left,done,Am.kept h1 g h3.1,hs,h3⟩
theorem Au.lt {w:Pa} {X Y B:Nat} {hops settles:Int} {ph N:Nat} {es:List AB} {hx:Option Hx} (h:Au w X Y B hops settles ph N es hx):X<w.heap.size/\Y<w.heap.size:=by
 obtain⟨left,done,h1,⟨Ak,ck,ev,hv,c0,c1,c2,h2⟩,h3⟩:=h;exact⟨Am.lt h1,Am.lt h2.blk⟩
theorem Am.ne {w:Pa} {a b:Nat} {t u:TypeId} {cs ds:Array Pd} (h:Am w a t cs) (k:Am w b u ds) (Bm:t≠u):a≠b:=λ e=>by
 subst e;have:=h.symm.trans k;cases this;exact Bm rfl
def Ma (w:Pa) (F:Nat->Prop):Prop:=∀ j t cs,Am w j t cs->(t=84\/t=115\/t=65\/t=3\/t=150\/t=119\/t=26)->¬ F j
theorem Ma.own {w:Pa} {F:Nat->Prop} (h:Ma w F) {base n size:Nat} {e:TypeId} {v:Pd} {xs:List Pd} (ho:w.ownsRow base e size v n xs) (he:e=65\/e=3\/e=150) {j:Nat} (hj:v.ownBlock=some j):¬ F j:=by
 obtain⟨_,cur,hb⟩:=Ao ho hj;exact h j e cur hb (by rcases he with h | h | h<;>simp[h])
theorem Ca.far {F:Nat->Prop} {w w':Pa} {H B N:Nat} {es:List AB} {rk:List Int} {ss:List Sc} (h:Ca w H B N es rk ss) (g:Kept F w w') (hF:Ma w F):Ca w' H B N es rk ss:=by
 obtain⟨v1,v2,v3,U,D,us,ds,h⟩:=h;exact⟨v1,v2,v3,U,D,us,ds,{ h with
  blk:=h.blk.kept g (hF _ _ _ h.blk (by simp))
  edg:=Kept.own g h.edg λ j hj=>hF.own h.edg (by simp) hj
  rank:=h.rank.kept g λ j hj=>hF.own h.rank (by simp) hj
  cuts:=Kept.own g h.cuts λ j hj=>hF.own h.cuts (by simp) hj
  ub:=h.ub.kept g (hF _ _ _ h.ub (by simp))
  db:=h.db.kept g (hF _ _ _ h.db (by simp))
  ur:=λ u v hv=>(h.ur u v hv).kept g λ j hj=>hF.own (h.ur u v hv) (by simp) hj
  dr:=λ u v hv=>(h.dr u v hv).kept g λ j hj=>hF.own (h.dr u v hv) (by simp) hj }⟩
theorem BN.far {F:Nat->Prop} {w w':Pa} {Y B:Nat} {hops settles:Int} {ph N:Nat} {es:List AB} {hx:Option Hx} (h:BN w Y B hops settles ph N es hx) (g:Kept F w w') (hF:Ma w F):BN w' Y B hops settles ph N es hx:=by
 obtain⟨Ak,ck,ev,hv,c0,c1,c2,h⟩:=h;refine⟨Ak,ck,ev,hv,c0,c1,c2,⟨h.lt,h.opt,Am.kept h.blk g (hF _ _ _ h.blk (by simp)),Kept.own g h.edg λ j hj=>hF.own h.edg (by simp) hj,?_⟩⟩;have hh:=h.hier;cases hx with
 | none=>exact hh
 | some x =>
  obtain⟨H,h1,h2,h3,h4⟩:=hh;exact⟨H,h1,h2.far g hF,h3,h4⟩
theorem Au.far {F:Nat->Prop} {w w':Pa} {X Y B:Nat} {hops settles:Int} {ph N:Nat} {es:List AB} {hx:Option Hx} (h:Au w X Y B hops settles ph N es hx) (g:Kept F w w') (hF:Ma w F):Au w' X Y B hops settles ph N es hx:=by
 obtain⟨left,done,h1,h2,h3⟩:=h;exact⟨left,done,Am.kept h1 g (hF _ _ _ h1 (by simp)),h2.far g hF,h3⟩
theorem A8 {w:Pa} {T:Nat} {t:TypeId} {cs:Array Pd} (h:Am w T t cs) (ht:¬ (t=84\/t=115\/t=65\/t=3\/t=150\/t=119\/t=26)):Ma w (λ j=>j=T):=λ j u ds hj hu e=>by
 subst e;have:=hj.symm.trans h;cases this;exact ht hu
section
variable {w:Pa} {X Y B:Nat} {hops settles:Int} {ph N:Nat} {es:List AB} {hx:Option Hx}
theorem F5 (c:Cm) (A:Option Pc) (n k:Nat) (w:Pa) :
  Pb A_ 93 #[CV c,i64 0,.slice A n k] w λ e w'=>e=.returned (Co 0 c.nm A n k none 0 0)/\Ac w w':=by
 obtain⟨nm,ai,ni,ci,wv,aq,nq,cq,gn,ag,ng,cg,ar,nr,cr⟩:=c
 dsimp only [CV,Co]
 obtain⟨w1,AQ,g1,b1⟩:=zb w #[str nm,.slice ai ni ci,u64 wv,.slice aq nq cq,i64 gn,.slice ag ng cg,.slice ar nr cr] 92 rfl
 obtain⟨w2,BM,g2,b2⟩:=zb w1 #[i64 0,.string ⟨#[]⟩,.slice none 0 0,.slice none 0 0,.slice none 0 0] 42 rfl
 have c1:=(b1.grew g2).cell 0
 simp at c1
 have HB:=zh b2
 have t6:=b2.setRow #[i64 0,str nm,.slice A n k,.slice none 0 0,.slice none 0 0]
 obtain⟨r0,r1,r2,r3,r4⟩:=LF t6
 have HF:PD (Ac w (w2.setRow w1.heap.size #[i64 0,str nm,.slice A n k,.slice none 0 0,.slice none 0 0])):=(g1.trans g2).setRow (.inr g1.size) _
 clear b1 g1 b2 g2 t6
 go_enter Tryz.func93,Tryz.ntmps93
 go_wp2_with (refine wpList_store_rowTo rfl 42 (.tmp 6) (.tmp 14) rfl rfl w1.heap.size #[i64 0,str nm,.slice A n k,.slice none 0 0,.slice none 0 0] (by rfl) (by rfl) 42 _ HB.out (by kernel_rfl) rfl (AF (by simp[Pf])) ?_)
 go_wp2_with fail
 exact zy (v:=.agg #[i64 0,str nm,.slice A n k,.slice none 0 0,.slice none 0 0]) (by simp[results,F_,go_sem,r0,r1,r2,r3,r4]) rfl ⟨rfl,HF.out⟩
theorem Lm (c:Cm) (f:Nat) (hf:1<=f/\f<15) (A:Option Pc) (n k:Nat) (w:Pa) :
  Pb A_ 93 #[CV c,i64 f,.slice A n k] w λ e w'=>e=.returned (Bx f)/\Ac w w':=by
 obtain⟨nm,ai,ni,ci,wv,aq,nq,cq,gn,ag,ng,cg,ar,nr,cr⟩:=c
 dsimp only [CV]
 obtain⟨w1,AQ,g1⟩:=zg w (.cells #[str nm,.slice ai ni ci,u64 wv,.slice aq nq cq,i64 gn,.slice ag ng cg,.slice ar nr cr] 92)
 obtain⟨w2,BM,g2,b2⟩:=zb w1 #[i64 0,.string ⟨#[]⟩,.slice none 0 0,.slice none 0 0,.slice none 0 0] 42 rfl
 have HE:=zh (D7 f hf w2)
 have hz:((f:Int) != 0)=true:=by simp;omega
 have H0:=DK b2 (g1.trans g2) g1.size
 clear g1 g2 b2 hf
 go_enter Tryz.func93,Tryz.ntmps93
 go_wp2_with fail
 refine HE.out.mono ?_
 rintro e w3 ⟨rfl,k3⟩
 have b3:=H0.out.1.grew k3
 have HB:=zh b3
 have t6:=b3.setRow #[i64 f,.string ⟨#[]⟩,.slice none 0 0,.slice none 0 0,.slice none 0 0]
 obtain⟨r0,r1,r2,r3,r4⟩:=LF t6
 have HF:PD (Ac w (w3.setRow w1.heap.size #[i64 f,.string ⟨#[]⟩,.slice none 0 0,.slice none 0 0,.slice none 0 0])):=(H0.out.2.1.trans k3).setRow (.inr H0.out.2.2) _
 clear b3 t6 k3 HE H0
 unfold Bx
 go_wp2_with (refine wpList_store_rowTo rfl 42 (.tmp 6) (.tmp 10) rfl rfl w1.heap.size #[i64 f,.string ⟨#[]⟩,.slice none 0 0,.slice none 0 0,.slice none 0 0] (by rfl) (by rfl) 42 _ HB.out (by kernel_rfl) rfl (AF (by simp[Pf])) ?_)
 go_wp2_with fail
 exact zy (v:=Bx f) (by simp[results,F_,go_sem,r0,r1,r2,r3,r4,Bx]) rfl ⟨rfl,HF.out⟩
theorem ML (hops settles:Int) (w:Pa) (h1:1<=hops/\hops<=1000) (h2:1<=settles/\settles<=1000) :
  Pb A_ 26 #[.agg #[i64 hops,i64 settles,.slice none 0 0]] w λ e w'=>∃ X Y,e=.returned (.tuple #[pt X,i64 0])/\w.heap.size<=X/\w.heap.size<=Y/\Au w' X Y w'.heap.size hops settles 0 0 [] none/\Ac w w':=by
 obtain⟨w1,AQ,g1,b1⟩:=zb w #[i64 hops,i64 settles,.slice none 0 0] 70 rfl
 have HN:=zh (lj hops settles w1 h1 h2)
 obtain⟨x0,x1,x2⟩:=mu b1
 have G1:=zh g1
 clear b1 g1 h1 h2
 go_enter Tryz.func26,Tryz.ntmps26
 go_wp2_with fail
 refine HN.out.mono ?_
 rintro e w2 ⟨Y,rfl,hY,hs,g2⟩
 have g3:Ac w2 (w2.alloc (.cells #[pt Y,.string ⟨#[]⟩,i64 0] 84)):=(zr _ _).alloc _
 have HF:PD (w.heap.size<=w2.heap.size/\w.heap.size<=Y/\Au (w2.alloc (.cells #[pt Y,.string ⟨#[]⟩,i64 0] 84)) w2.heap.size Y (w2.alloc (.cells #[pt Y,.string ⟨#[]⟩,i64 0] 84)).heap.size hops settles 0 0 [] none/\Ac w (w2.alloc (.cells #[pt Y,.string ⟨#[]⟩,i64 0] 84))):=by
  have hYl:Y<w2.heap.size:=by
   obtain⟨Ak,ck,ev,hv,c0,c1,c2,h⟩:=hs (Y+1) (by omega);exact Am.lt h.blk
  exact⟨(G1.out.trans g2).size,PG G1.out.size hY,⟨[],0,zv _ _ _,(hs _ (by simp;omega)).grew g3,by omega,by simp,by simp;omega⟩,(G1.out.trans g2).trans g3⟩
 clear hs HN G1 g2 g3 hY
 go_wp2_with fail
 go_ret2
 exact⟨_,_,rfl,HF.out⟩
end
theorem decDigits_eq (n:Nat):Lib.decDigits n=dec n:=by
 induction n using Nat.strongRecOn with
 | _ n ih =>
  rw[Lib.decDigits,dec];by_cases h:n<10
  ·simp[h]
  ·simp only[h,dif_neg,if_neg,not_false_eq_true];rw[ih (n/10) (by omega)]
theorem kW (n:Nat) (hn:n<100) (w:Pa):Pb A_ 231 #[i64 n] w λ e w'=>e=.returned (str (dec n))/\w=w' :=
 (Tryz.internal_strconv_small n hn w).mono λ e w' ⟨h1,h2⟩=>⟨by rw[h1,decDigits_eq];rfl,h2.symm⟩
theorem dZ (n:Nat) (hn:n<100) (w:Pa):Pb A_ 112 #[i64 n] w λ e w'=>e=.returned (str (dec n))/\w=w' :=
 (Tryz.strconv_Itoa_small n hn w).mono λ e w' ⟨h1,h2⟩=>⟨by rw[h1,decDigits_eq];rfl,h2.symm⟩
theorem ID (n:Nat) (hn:n<100) (w:Pa):Pb A_ 164 #[u64 n,i64 10] w λ e w'=>e=.returned (str (dec n))/\w=w':=by
 have HS:=zh (λ W=>kW n hn W);have l1:(n:Int)<100:=(by omega);have u1:PJ.wrap (n:Int)=(n:Int):=IntWalk.i64_in _ (by omega);clear hn;go_enter Tryz.func164,Tryz.ntmps164;go_wp2_with fail;refine(HS.out _).mono ?_;rintro e w9 ⟨rfl,rfl⟩;go_wp2_with fail;go_ret;exact⟨rfl,rfl⟩
theorem FO (n:Nat) (hn:n<100) (w:Pa):Pb A_ 69 #[u64 n] w λ e w'=>e=.returned (str (dec n))/\w=w':=by
 have HS:=zh (λ W=>ID n hn W);have HF:PD (∀ W,Pb A_ 109 #[u64 n,i64 10] W λ e w'=>e=.returned (str (dec n))/\W=w'):=zh λ W=>by
  clear hn;go_enter Tryz.func109,Tryz.ntmps109;go_wp2_with fail;refine(HS.out _).mono ?_;rintro e w9 ⟨rfl,rfl⟩;go_wp2_with fail;go_ret;exact⟨rfl,rfl⟩
 clear hn HS;go_enter Tryz.func69,Tryz.ntmps69;go_wp2_with fail;refine(HF.out _).mono ?_;rintro e w9 ⟨rfl,rfl⟩;go_wp2_with fail;go_ret;exact⟨rfl,rfl⟩
theorem aC (c:Int) (h:decide (33<=c/\c<=126)=true) (w:Pa):Pb A_ 161 #[.int .u8 c] w λ e w'=>e=.returned (.bool false)/\w=w':=by
 have HS:=zh (λ W=>FR c true h W);clear h;go_enter Tryz.func161,Tryz.ntmps161;go_wp2_with fail;refine(HS.out _).mono ?_;rintro e w9 ⟨rfl,rfl⟩;go_wp2_with fail;go_ret;exact⟨rfl,rfl⟩
theorem eC (g L c:Nat) (l:List UInt8) (w:Pa) (hL:l.length=L) (hl:L<=100000) (Ba:∀ x∈l,sgn x=true) (hb:∀ (i:Nat) (x:UInt8),l[i]? = some x->w.cell? ⟨g,i,none⟩=some (.int .u8 (x.toNat:Int))) :
  Pb A_ 230 #[.slice (some ⟨g,0,none⟩) L c,.func (.func 161) #[] #[]] w λ e w'=>e=.returned (i64 (-1))/\w=w':=by
 have H0:=DK hL Ba hb
 clear hL Ba hb
 go_enter Tryz.func230,Tryz.ntmps230
 go_wp2_with fail
 go_loop [8] (λ i=>∃ k:Nat,k<=L/\i=.int .i64 k) (λ i=>L-(intOf i).toNat)
 case atStart=>exact⟨0,by omega,rfl⟩
 case round =>
  obtain⟨k,hk,rfl⟩:=hrel;by_cases AH:k<L
  ·have k0:(0:Int)<=(k:Int):=(by omega);have k1:(k:Int)<(L:Int):=(by omega);obtain⟨x,hx⟩:=zx (l:=l) (i:=k) (by rw[H0.out.1];exact AH);have hc:=H0.out.2.2 k x hx;have HN:=zh (λ W=>aC (x.toNat:Int) (Eb (H0.out.2.1 x (zm hx))).1 W);clear hx;go_wp2_with fail;refine(HN.out _).mono ?_;rintro e w9 ⟨rfl,rfl⟩;clear HN;go_wp2_with fail;go_round
   case rel=>exact⟨k+1,by omega,by go_num⟩
   case measure=>simp[intOf];omega
  ·obtain rfl:k=L:=(by omega);go_wp2_with fail;go_ret;exact⟨rfl,rfl⟩
theorem NT (l:List UInt8) (Ba:Cp l) (hl:l.length<=100000) (w:Pa):Pb A_ 105 #[str l] w λ e w'=>e=.returned (.bool true)/\Ac w w':=by
 obtain⟨cap,w1,Gf,GI,BV,_,Fq⟩:=IW w l;have HI:=zh (eC w.heap.size l.length cap l w1 rfl hl Ba.2 Fq);have hC:PD (Pb A_ 160 #[.slice (some ⟨w.heap.size,0,none⟩) l.length cap,.func (.func 161) #[] #[]] w1 λ e w'=>e=.returned (.bool false)/\w1=w'):=zh (by
  clear Gf GI BV Fq Ba hl;obtain⟨L,hL⟩:=zn (l.length);rw[hL]at HI ⊢;clear hL;go_enter Tryz.func160,Tryz.ntmps160;go_wp2_with fail;refine HI.out.mono ?_;rintro e w9 ⟨rfl,rfl⟩;go_wp2_with fail;go_ret;exact⟨rfl,rfl⟩)
 have Bm:((bs l).toList==[])=false:=by rw[Al];exact beq_eq_false_iff_ne.2 Ba.1
 have hne2:((bs l).toList != [])=true:=by rw[bne,Bm];rfl
 have hne3:(bs l).toList.isEmpty=false:=by rw[Al];exact Pv.2 Ba.1
 have hne4:¬ (bs l).toList=[]:=by rw[Al];exact Ba.1
 obtain⟨L,hL⟩:=zn (l.length);rw[hL]at Gf hC;have HG:=zh GI;clear Ba hl BV Fq hL GI HI;go_enter Tryz.func105,Tryz.ntmps105;go_wp2_with fail;refine hC.out.mono ?_;rintro e w9 ⟨rfl,rfl⟩;clear Gf;go_wp2_with fail;go_ret;exact⟨rfl,HG.out⟩
theorem uu (l:List UInt8) (Ba:Cp l) (hl:l.length<=100000) (w:Pa):Pb A_ 104 #[str l] w λ e w'=>e=.returned (.bool false)/\Ac w w':=by
 have HT:=zh (λ W=>NT l Ba hl W);clear Ba hl;go_enter Tryz.func104,Tryz.ntmps104;go_wp2_with fail;refine(HT.out _).mono ?_;rintro e w9 ⟨rfl,k⟩;go_wp2_with fail;go_ret;exact⟨rfl,k⟩
theorem aB (c:Nat) (A:Option Pc) (f:Pd) (w:Pa):Pb A_ 106 #[.slice A 0 c,f] w λ e w'=>e=.returned (.bool false)/\w=w':=by
 have HI:PD (Pb A_ 162 #[.slice A 0 c,f] w λ e w'=>e=.returned (i64 (-1))/\w=w'):=zh (by
  go_enter Tryz.func162,Tryz.ntmps162;go_wp2_with fail;go_loop [8] (λ i=>i=.int .i64 0) (λ i=>0)
  case atStart=>rfl
  case round =>
   subst hrel;go_wp2_with fail;go_ret;exact⟨rfl,rfl⟩)
 go_enter Tryz.func106,Tryz.ntmps106;go_wp2_with fail;refine HI.out.mono ?_;rintro e w9 ⟨rfl,rfl⟩;go_wp2_with fail;go_ret;exact⟨rfl,rfl⟩
theorem ae (A:Option Pc) (c:Nat) (ls:List (List UInt8)) (sep:List UInt8) (w:Pa) (h:CU w A ls) (hc:ls.length<=c) (hl:ls.length<=100000) (hlen:(PC ls sep).length<=1000000) :
  Pb A_ 71 #[.slice A ls.length c,str sep] w λ e w'=>e=.returned (str (PC ls sep))/\Ac w w':=by
 cases ls with
 | nil =>
  exact(Tryz.strings_Join_none A c (bs sep) w).mono λ e w' ⟨h1,h2⟩=>⟨h1,by subst h2;exact zr _ _⟩
 | cons x ls =>
  obtain⟨b,off,hA,hb,_⟩:=h 0 x rfl;have hm:((x::ls).map bs).map (·.data.toList)=x::ls:=by
   rw[List.map_map];conv=>rhs;rw[<- List.map_id (x::ls)]
   apply List.map_congr_left;intro y _;exact FW y
  have OW:((x::ls).map bs).length=(x::ls).length:=(by simp);have:=Tryz.strings_Join b off c ((x::ls).map bs) (bs sep) w (λ j y hy=>by
   rw[Pj]at hy;obtain⟨l,hl,rfl⟩:=Option.map_eq_some_iff.1 hy;obtain⟨b',uv,Mo,Lx,yC⟩:=h j l hl;rw[hA]at Mo;cases Mo;exact yC) hb (by rw[OW];omega) (by rw[OW];exact hc) (by rw[hm,FW];omega)
  rw[hm,OW,FW,<-hA]at this;exact this.mono λ e w' ⟨h1,h2⟩=>⟨h1,Ac.of_below h2⟩
theorem Mz (ls:List (List UInt8)):PC ls [32]=At ls:=by
 induction ls with
 | nil=>rfl
 | cons x ls ih =>
  cases ls with
  | nil=>simp[Lib.join_one,At,C7]
  | cons y ls =>
   have:PC (x::y::ls) [32]=x++[32]++PC (y::ls) [32]:=(by simp[PC,Py,Pz]);rw[this,ih];simp[At,C7]
def mE (w:Pa) (G:Nat) (ws:List (List UInt8)):Prop:=∃ v,Am w G 40 #[v]/\BD w 0 v ws
theorem mE.grew {w w':Pa} {G:Nat} {ws:List (List UInt8)} (h:mE w G ws) (k:Ac w w'):mE w' G ws:=by
 obtain⟨v,h1,h2⟩:=h;exact⟨v,h1.grew k,h2.grew k⟩
theorem put_any (B G g:Nat) (ws:List (List UInt8)) (x:List UInt8) (w:Pa) (v:Pd) (hG:Am w G 40 #[v]) (ho:BD w B v ws) (hGB:B<=G) (hl:ws.length<=1000) (hg:Am w g 9 #[str x]) (hB:B<=w.heap.size) :
  Pb A_ 68 #[.slice (some ⟨g,0,none⟩) 1 1,pt G] w λ e w'=>e=.returned (.tuple #[])/\(∃ v',Am w' G 40 #[v']/\BD w' B v' (ws++[x]))/\Kept (λ j=>B<=j) w w':=by
 obtain⟨A,c,rfl,hr⟩:=ho.row
 obtain⟨i0,hi,Cu,BV,Cj⟩:=info_parts C6
 obtain⟨n,hn⟩:=zn (ws.length)
 have hNe:PD (∀ j u,([str x]:List Pd)[j]? = some u->w.cell? ((⟨g,0,none⟩:Pc).add j)=some u):=zh (O_ hg)
 unfold BD at ho
 rw[hn]at ho hl
 have HO:=zh ho
 have HG:=zh hG
 have c0:=hG.cell 0
 simp at c0
 rw[hn]at c0
 have nG:¬ (Ph A n c).ownBlock=some G:=λ h=>by
  obtain⟨_,cur,LP⟩:=Ao ho h;have:=(show w.heap[G]? = _ from hG).symm.trans LP;cases this
 have HN:=DS nG hn hGB hB
 clear hr ho hG hn hg hGB hB
 go_enter Tryz.func68,Tryz.ntmps68
 go_wp2_with (at_builtin;go_loud (
    refine wpList_append_lies _ rfl (.tmp 3) (.tmp 4) 40 (by rfl) B 9 i0 (.string ⟨#[]⟩) 1 16 E_ hi Cu BV Cj (by rfl) (by omega) (.slice A n c) n (ws.map str) (by rfl) HO.out ⟨g,0,none⟩ 1 1 [str x] (by rfl) (by rfl) hNe.out (by intro u hu;simp at hu;subst hu;rfl) (by omega) (by unfold maxLen;omega) (by omega) HN.out.2.2.2 _ rfl ?_
    intro g1 cp wa Bb AD _ _
    have kA:Kept (λ j=>(Ph A n c).ownBlock=some j) w wa:=(zr _ _).grown AD (λ k hk=>.inl hk)
    have OR:=HG.out.kept kA nG
    have a0:=OR.cell 0
    have b0:=OR.frozen 0
    simp at a0
    have HF:PD ((∃ v',Am (wa.setCell ⟨G,0,none⟩ (.slice (some ⟨g1,0,none⟩) (n+1) cp)) G 40 #[v']/\BD (wa.setCell ⟨G,0,none⟩ (.slice (some ⟨g1,0,none⟩) (n+1) cp)) B v' (ws++[x]))/\Kept (λ j=>B<=j) w (wa.setCell ⟨G,0,none⟩ (.slice (some ⟨g1,0,none⟩) (n+1) cp))):=by
     have gG:Kept (λ j=>j=G) wa (wa.setCell ⟨G,0,none⟩ (.slice (some ⟨g1,0,none⟩) (n+1) cp)):=(zr (λ j=>j=G) wa).setCell (p:=⟨G,0,none⟩) (.inl rfl) _;obtain⟨_,cur,LP⟩:=Ao Bb (show (Ph (some ⟨g1,0,none⟩) (n+1) cp).ownBlock=some g1 from rfl);refine⟨⟨.slice (some ⟨g1,0,none⟩) (n+1) cp,?_,?_⟩,(kA.mono λ j _ hj=>(Ao HO.out hj).1).trans (gG.mono λ j _ hj=>by have hj:j=G:=hj;rw[hj];exact HN.out.2.2.1)⟩
     ·have:=OR.set 0 (.slice (some ⟨g1,0,none⟩) (n+1) cp);simpa using this
     ·unfold BD;rw[Ps,HN.out.2.1,PB];exact Kept.own gG Bb (λ j hj h=>by
       obtain rfl:g1=j:=Option.some.inj hj
       have h:g1=G:=h
       subst h
       have:=(show wa.heap[g1]? = _ from OR).symm.trans LP
       cases this)
    clear Bb AD kA OR))
 go_end0
 exact⟨rfl,HF.out⟩
theorem Kept.old {B:Nat} {w w':Pa} (h:Kept (λ j=>B<=j) w w') (hB:w.heap.size<=B):Ac w w':=h.mono λ i hi hf=>by
 have hf:B<=i:=hf;omega
def B7 (r:List Nat×Nat):List UInt8:=dec r.2++58::PC (r.1.map dec) [46]
theorem kq (A:Option Pc) (c:Nat) (zs:List Nat) (w:Pa) (h:RowI w A (zs.map λ (n:Nat)=>(n:Int))) (hl:zs.length<=1000) :
  Pb A_ 110 #[.slice A zs.length c,.func (.func 111) #[] #[]] w λ e w'=>e=.returned (.bool false)/\w=w':=by
 obtain⟨L,hL⟩:=zn (zs.length)
 have H0:=BP h hL
 rw[hL]at hl ⊢
 clear h hL
 have HI:PD (Pb A_ 165 #[.slice A L c,.func (.func 111) #[] #[]] w λ e w'=>e=.returned (i64 (-1))/\w=w'):=zh (by
  go_enter Tryz.func165,Tryz.ntmps165;go_wp2_with fail;go_loop [8] (λ i=>∃ k:Nat,k<=L/\i=.int .i64 k) (λ i=>L-(intOf i).toNat)
  case atStart=>exact⟨0,by omega,rfl⟩
  case round =>
   obtain⟨k,hk,rfl⟩:=hrel;by_cases AH:k<L
   ·have k0:(0:Int)<=(k:Int):=(by omega);have k1:(k:Int)<(L:Int):=(by omega);obtain⟨x,hx⟩:=zx (l:=zs) (i:=k) (by rw[H0.out.2];exact AH);obtain⟨b,off,hA,hb,hc⟩:=H0.out.1 k (x:Int) (by rw[Pj,hx];rfl);subst hA;have x0:¬ (x:Int)<0:=(by omega);have HN:PD (∀ W,Pb A_ 111 #[i64 x] W λ e w'=>e=.returned (.bool false)/\W=w'):=zh λ W=>by
     clear hc hx hb
     have d0:decide ((x:Int)<0)=false:=zf (by omega)
     go_enter Tryz.func111,Tryz.ntmps111
     go_wp2_with fail
     go_ret
     exact⟨by simp,rfl⟩
    clear hx hb;go_wp2_with fail;refine(HN.out _).mono ?_;rintro e w9 ⟨rfl,rfl⟩;clear HN;go_wp2_with fail;go_round
    case rel=>exact⟨k+1,by omega,by go_num⟩
    case measure=>simp[intOf];omega
   ·obtain rfl:k=L:=(by omega);go_wp2_with fail;go_ret;exact⟨rfl,rfl⟩)
 go_enter Tryz.func110,Tryz.ntmps110
 go_wp2_with fail
 refine HI.out.mono ?_
 rintro e w9 ⟨rfl,rfl⟩
 go_wp2_with fail
 go_ret
 exact⟨rfl,rfl⟩
theorem I9 (sep:List UInt8):∀ (ls:List (List UInt8)) (M:Nat),(∀ x∈ls,x.length<=M)->(PC ls sep).length<=ls.length*(M+sep.length)
 | [],_,_=>by simp[Lib.join_nil]
 | [x],M,h=>by rw[Lib.join_one];have:=h x (by simp);simp;omega
 | x::y::ls,M,h=>by
  have e:PC (x::y::ls) sep=x++sep++PC (y::ls) sep:=(by simp[PC,Py,Pz]);have h1:=I9 sep (y::ls) M (λ z hz=>h z (List.mem_cons_of_mem _ hz));have h2:=h x (by simp);rw[e];simp only[Ps,PA]at h1 ⊢;rw[Nat.add_mul (ls.length+1) 1];omega
theorem M9 {n:Nat} (h:n<100):(dec n).length<=2:=Dz (k:=1) (by omega)
theorem MH (A:Option Pc) (c wt:Nat) (zs:List Nat) (w:Pa) (h:RowI w A (zs.map λ (n:Nat)=>(n:Int))) (hl:zs.length<=1000) (hz:∀ z∈zs,z<100) (hw:wt<100) :
  Pb A_ 70 #[.agg #[.slice A zs.length c,u64 wt]] w λ e w'=>e=.returned (str (B7 (zs,wt)))/\Ac w w':=by
 obtain⟨i0,hi,Cu,BV,Cj⟩:=info_parts C6
 obtain⟨w1,AQ,g1,b1⟩:=zb w #[.slice A zs.length c,u64 wt] 133 rfl
 have HNo:=zh (kq A c zs w1 (h.grew g1) hl)
 obtain⟨L,hL⟩:=zn (zs.length)
 have HP:=zh (λ W=>FO wt hw W)
 have HI:=zh (λ (n:Nat) (hn:n<100) W=>dZ n hn W)
 rw[hL]at b1 HNo hl AQ ⊢
 obtain⟨x0,x1⟩:=CE b1
 have hlen:(PC (zs.map dec) [46]).length<=100000:=by
  have:=I9 [46] (zs.map dec) 2 (λ x hx=>by
   obtain⟨z,hz',rfl⟩:=List.mem_map.1 hx;exact M9 (hz z hz'))
  simp at this;omega
 have vL:=M9 hw
 have H0:=JQ h hz hL g1 b1 hlen
 have a1:bs (dec wt)++⟨#[58]⟩=bs (dec wt++[58]):=AI _ [58]
 have a2:bs (dec wt++[58])++bs (PC (zs.map dec) [46])=bs (dec wt++58::PC (zs.map dec) [46]):=by rw[AI];simp
 obtain⟨z1,z2⟩:=DU (a:=dec wt) (b:=[58]) (by simp;omega)
 obtain⟨z3,z4⟩:=DU (a:=dec wt++[58]) (b:=PC (zs.map dec) [46]) (by simp;omega)
 have z5:(⟨#[58]⟩:ByteArray).size=1:=rfl
 have z6:¬ 9223372036854775807<(bs (dec wt)).size+1:=z2
 clear h hz hw hL g1 b1 hlen vL
 go_enter Tryz.func70,Tryz.ntmps70
 go_wp2_with fail
 have e1:w.alloc (.cells #[.slice A L c,.int .u64 (wt:Int)] 133)=w1:=AQ
 try rw [e1]
 clear e1 AQ
 refine HNo.out.mono ?_
 rintro e w9 ⟨rfl,rfl⟩
 clear HNo
 go_wp2_with fail
 go_loopw [3,12] (λ v i wr=>∃ (k:Nat) (A2:Option Pc) (c2:Nat),k<=L/\i=.int .i64 k/\v=.slice A2 k c2/\PD (wr.ownsRow w1.heap.size 9 1 (.slice A2 k c2) k (((zs.map dec).take k).map str)/\Ac w1 wr)) (λ _ i _=>L-(intOf i).toNat)
 case atStart=>exact⟨0,none,0,by omega,rfl,rfl,zh ⟨⟨rfl,.inl ⟨rfl,rfl⟩⟩,zr _ _⟩⟩
 case round =>
  obtain⟨k,A2,c2,hk,rfl,rfl,hS⟩:=hrel;by_cases AH:k<L
  ·as_aux_lemma =>
   have k0:(0:Int)<=(k:Int):=(by omega);have k1:(k:Int)<(L:Int):=(by omega);obtain⟨x,hx⟩:=zx (l:=zs) (i:=k) (by rw[H0.out.2.2.1];exact AH);obtain⟨b,off,hA,hb,hc⟩:=((H0.out.1.grew H0.out.2.2.2.1).grew hS.out.2) k (x:Int) (by rw[Pj,hx];rfl);subst hA;have HX:=zh (HI.out x (H0.out.2.1 x (zm hx)));have HT:PD ((zs.map dec).take (k+1)=(zs.map dec).take k++[dec x]):=zh (by rw[Pt,Pj,hx];rfl);have AV:PD ((wr.alloc (.cells #[str (dec x)] 9)).ownsRow w1.heap.size 9 1 (.slice A2 k c2) k (((zs.map dec).take k).map str)):=zh (Ac.own (Ha _ _ _) hS.out.1);have hN:PD (∀ j u,([str (dec x)]:List Pd)[j]? = some u->(wr.alloc (.cells #[str (dec x)] 9)).cell? ((⟨wr.heap.size,0,none⟩:Pc).add j)=some u):=zh (O_ (heap_alloc_new wr (.cells #[str (dec x)] 9)));have Df:=zh hS.out.2.size;clear hx hb;go_wp2_with fail;refine(HX.out _).mono ?_;rintro e w9 ⟨rfl,rfl⟩;clear HX;go_wp2_with (at_builtin;go_loud (
    refine wpList_append_lies _ rfl (.tmp 16) (.tmp 19) 40 (by rfl) w1.heap.size 9 i0 (.string ⟨#[]⟩) 1 16 E_ hi Cu BV Cj (by rfl) (by omega) (.slice A2 k c2) k (((zs.map dec).take k).map str) (by rfl) AV.out ⟨wr.heap.size,0,none⟩ 1 1 [str (dec x)] (by rfl) (by rfl) hN.out (by intro u hu;simp at hu;subst hu;rfl) (by omega) (by unfold maxLen;omega) (by omega) (by have:=Df.out;simp;omega) _ rfl ?_;intro g1 cp wa Bb AD _ _;have Ci:PD (wa.ownsRow w1.heap.size 9 1 (.slice (some ⟨g1,0,none⟩) (k+1) cp) (k+1) (((zs.map dec).take (k+1)).map str)/\Ac w1 wa):=zh ⟨by rw[HT.out,PB];exact Bb,(hS.out.2.trans (Ha _ _ _)).then ((zr _ _).grown AD (λ k hk=>.inl hk):Kept (λ j=>(Ph A2 k c2).ownBlock=some j) _ wa) (λ i hi h=>by have:=(Ao hS.out.1 h).1;omega)⟩;clear Bb AD AV hN))
   go_roundw
   case rel=>exact⟨k+1,some ⟨g1,0,none⟩,cp,by omega,by go_num,rfl,Ci⟩
   case measure=>simp[intOf];omega
  ·as_aux_lemma =>
   obtain rfl:k=L:=(by omega);have OW:(zs.map dec).length=k:=(by rw[Pq,H0.out.2.2.1]);have AV:=hS.out.1;rw[Pp (by omega)]at AV;have hoT:BD wr w1.heap.size (.slice A2 k c2) (zs.map dec):=by unfold BD;rw[OW];exact AV
   obtain⟨A3,c3,hv,AY⟩:=hoT.row;obtain⟨rfl,rfl⟩:A2=A3/\c2=c3:=by
    injection hv with h1 h2 h3;exact⟨h1,h3⟩
   clear hv;have Bg:(zs.map dec).length<=c2:=by
    rcases AV.2 with ⟨hv,h0⟩ | ⟨g,cap,cur,hv,hb,hg,h3,_⟩
    ·omega
    ·cases hv;omega
   have HJ:Pb A_ 71 #[.slice A2 (zs.map dec).length c2,.string ⟨#[46]⟩] wr λ e w'=>e=.returned (.string (bs (PC (zs.map dec) [46])))/\Ac wr w':=ae A2 c2 (zs.map dec) [46] wr AY Bg (by omega) (by have:=H0.out.2.2.2.2.2;omega);rw[OW]at HJ;have HJ:=zh HJ;have b2:=H0.out.2.2.2.2.1.grew hS.out.2;have y1:=b2.cell 1;simp at y1;have HG:=zh (H0.out.2.2.2.1.trans hS.out.2);clear AV hoT AY Bg OW b2 hS;go_wp2_with fail;refine(HP.out _).mono ?_;rintro e w9 ⟨rfl,rfl⟩;clear HP;go_wp2_with fail;refine HJ.out.mono ?_;rintro e w8 ⟨rfl,k8⟩;have HF:=zh (HG.out.trans k8);clear HJ k8;go_wp2_with fail;go_ret;exact⟨rfl,HF.out⟩
section
variable {w:Pa} {X Y B:Nat} {hops settles:Int} {ph N:Nat} {es:List AB} {hx:Option Hx}
theorem eW (c:Cm) (h:Au w X Y B hops settles ph N es hx) (DP:ph<=3) (N':Nat) (D8:List AB) (hN:c.gn=(N':Int)) (hng:c.ng=D8.length) (he:Bj w c.ag D8) (hr:Aq N' D8=0) (hl:D8.length<=800) (hB:B<=w.heap.size) :
  Pb A_ 57 #[pt X,CV c] w λ e w'=>∃ g,e=.returned (Co 0 c.nm (some ⟨g,0,none⟩) 2 2 none 0 0)/\Am w' g 29 #[u64 (N':Int),u64 (D8.length:Int)]/\Au w' X Y B hops settles 1 N' D8 none/\Kept (λ j=>j=Y) w w':=by
 have h0:=zh h
 obtain⟨nm,ai,ni,ci,wv,aq,nq,cq,gn,ag,ng,cg,ar,nr,cr⟩:=c
 dsimp only at *
 obtain⟨w1,AQ,g1,b1⟩:=zb w #[str nm,.slice ai ni ci,u64 wv,.slice aq nq cq,i64 gn,.slice ag ng cg,.slice ar nr cr] 92 rfl
 obtain⟨w2,BM,g2,b2⟩:=zb w1 #[i64 0,.string ⟨#[]⟩,.slice none 0 0,.slice none 0 0,.slice none 0 0] 42 rfl
 obtain⟨T,hT⟩:=zn (w1.heap.size)
 rw[hT]at b2
 have h2:=h.grew (g1.trans g2)
 have AH:=h.lt
 have HC:PD (∀ W',Kept (λ j=>j=Y) w2 W'->W'.cell? ⟨X,0,none⟩=some (pt Y)/\W'.cell? ⟨w.heap.size,0,none⟩=some (str nm)/\W'.cell? ⟨w.heap.size,1,none⟩=some (.slice ai ni ci)/\W'.cell? ⟨w.heap.size,2,none⟩=some (u64 wv)/\W'.cell? ⟨w.heap.size,3,none⟩=some (.slice aq nq cq)/\W'.cell? ⟨w.heap.size,4,none⟩=some (i64 gn)/\W'.cell? ⟨w.heap.size,5,none⟩=some (.slice ag ng cg)/\W'.cell? ⟨w.heap.size,6,none⟩=some (.slice ar nr cr)):=λ W' k=>by
  have hn:¬ (w.heap.size=Y):=(by omega);have b:=(b1.grew g2).kept k hn;obtain⟨left,done,q1,_,q3⟩:=h2;have q:=Am.kept q1 k (show ¬ X=Y from q3.1);have p0:=b.cell 0;have p1:=b.cell 1;have p2:=b.cell 2;have p3:=b.cell 3;have p4:=b.cell 4;have p5:=b.cell 5;have p6:=b.cell 6;have p7:=q.cell 0;simp at p0 p1 p2 p3 p4 p5 p6 p7;exact⟨p7,p0,p1,p2,p3,p4,p5,p6⟩
 have HS:=zh h2
 have HZ:=DS (g1.trans g2) b2 ((by rw[<- hT];exact g1.size:w.heap.size<=T)) AH
 have gz:Kept (λ j=>j=Y) w2 w2.drew:=(zr _ _).drew
 subst hN
 subst hng
 have fh:=zh (λ W (k:Ac w2 W)=>pz ph N es hx (h2.elim λ _ h=>h.elim λ _ h=>h.2.1.grew k) DP ag cg N' D8 ((he.grew (g1.trans g2)).grew k) hr hl (PG hB ((g1.trans g2).trans k).size))
 have hN4:=(right_zero hr).2.1
 have jK:PI.wrap (N':Int)=(N':Int):=wrapN N' (by omega)
 have hu2:PI.wrap (D8.length:Int)=(D8.length:Int):=wrapN _ (by omega)
 obtain⟨L,hL⟩:=zn (D8.length)
 rw[hL]at hu2 HC fh AQ ⊢
 have uV:=zh hL
 clear h he hr hl hB DP hL h2 AH g1 g2 b1 b2 hN4
 go_enter Tryz.func57,Tryz.ntmps57
 go_upto_region 1 with fail
 have e2:(w1.alloc (.cells #[.int .i64 0,.string ⟨#[]⟩,.slice none 0 0,.slice none 0 0,.slice none 0 0] 42))=w2:=BM
 try rw [e2]
 try rw [hT]
 have LO:Ac w2 w2.drew:=(zr _ _).drew
 clear e2 BM hT
 refine rG [19] (λ j=>j=Y) ?_
 refine tF 0 5 HC.out gz ?_
 refine pG 1 6 ?_
 refine pG 2 7 ?_
 refine pG 3 8 ?_
 refine tF 4 9 HC.out gz ?_
 refine pG 5 10 ?_
 refine tF 6 11 HC.out gz ?_
 refine pG 8 13 ?_
 refine pG 9 14 ?_
 refine tF 10 15 HC.out gz ?_
 refine pG 11 16 ?_
 refine pG 12 17 ?_
 refine pG 13 18 ?_
 refine tF 14 19 HC.out gz ?_
 refine pG 15 20 ?_
 refine pG 16 21 ?_
 refine AP 7 12 17 22 rfl rfl (by kernel_rfl) rfl rfl (by rfl) (by rfl) (λ K Aj=>?_) (λ K Aj=>?_)
 ·skip;go_simp;refine(fh.out _ LO).mono ?_;rintro e y1 ⟨rfl,hs,k1⟩;refine Aj (i64 0) _ (λ _=>k1) ?_;clear Aj;simp only[sA];refine sG 17 22 (λ K Aj=>?_);go_simp;obtain⟨y2,DC⟩:=zn ((N_ y1 (.cells #[u64 (N':Int),u64 (L:Int)] 29)));have pn:Ac y1 y2:=by rw[<- DC];exact Ha _ _ _
  have bv:Am y2 (M_ y1).size 29 #[u64 (N':Int),u64 (L:Int)]:=by rw[<- DC];exact zv _ _ _
  obtain⟨g,hg⟩:=zn ((M_ y1).size);rw[hg]at bv;rw[DC,hg];have k2:=Ac.kept (F:=λ j=>j=Y) pn;have hs:=hs.grew pn;refine Aj (.slice (some ⟨g,0,none⟩) 2 2) _ (λ _=>k2) ?_;clear Aj;simp only[sA];refine sG 18 23 (λ K Aj=>?_);go_simp;refine(F5 ⟨nm,ai,ni,ci,wv,aq,nq,cq,(N':Int),ag,L,cg,ar,nr,cr⟩ _ 2 2 _).mono ?_;rintro e y3 ⟨rfl,Gl⟩;have k3:=Ac.kept (F:=λ j=>j=Y) Gl;have kk:Kept (λ j=>j=Y) w2 y3:=((gz.trans k1).trans k2).trans k3;have HL:PD (Kept (λ j=>j=Y) w2 y3/\(BN y3 Y B hops settles 1 N' D8 none/\Am y3 g 29 #[u64 (N':Int),u64 (L:Int)])/\Am y3 T 42 #[i64 0,.string ⟨#[]⟩,.slice none 0 0,.slice none 0 0,.slice none 0 0]):=⟨kk,⟨hs.grew Gl,bv.grew Gl⟩,HZ.out.2.1.kept kk (show ¬ T=Y by have:=HZ.out.2.2;omega)⟩;clear hs bv kk k1 k2 Gl;refine Aj (.agg #[i64 0,str nm,.slice (some ⟨g,0,none⟩) 2 2,.slice none 0 0,.slice none 0 0]) _ (λ _=>k3) ?_;clear Aj;simp only[sA];refine DH 19 (λ K Aj=>?_);have HB:=zh HL.out.2.2;refine wp_store_row 42 (.tmp 4) (.tmp 23) rfl T #[i64 0,str nm,.slice (some ⟨g,0,none⟩) 2 2,.slice none 0 0,.slice none 0 0] rfl rfl 42 _ HB.out (by kernel_rfl) rfl (AF (by simp[Pf])) ?_;refine Aj _ (λ h=>absurd (by simp) h) ?_;clear Aj;refine dG ?_;have t6:=HB.out.setRow #[i64 0,str nm,.slice (some ⟨g,0,none⟩) 2 2,.slice none 0 0,.slice none 0 0];obtain⟨r0,r1,r2,r3,r4⟩:=LF t6;have kT:Kept (λ j=>j=T) y3 (L_ y3 T #[i64 0,str nm,.slice (some ⟨g,0,none⟩) 2 2,.slice none 0 0,.slice none 0 0]):=(zr (λ j=>j=T) _).setRow (.inl rfl) _;have ap:=A8 HB.out (by simp);have kF:Kept (λ j=>j=Y) w (L_ y3 T #[i64 0,str nm,.slice (some ⟨g,0,none⟩) 2 2,.slice none 0 0,.slice none 0 0]):=((Ac.kept HZ.out.1).trans HL.out.1).setRow (.inr HZ.out.2.2.1) _;have HF:PD (Am (L_ y3 T #[i64 0,str nm,.slice (some ⟨g,0,none⟩) 2 2,.slice none 0 0,.slice none 0 0]) g 29 #[u64 (N':Int),u64 (L:Int)]/\Au (L_ y3 T #[i64 0,str nm,.slice (some ⟨g,0,none⟩) 2 2,.slice none 0 0,.slice none 0 0]) X Y B hops settles 1 N' D8 none/\Kept (λ j=>j=Y) w (L_ y3 T #[i64 0,str nm,.slice (some ⟨g,0,none⟩) 2 2,.slice none 0 0,.slice none 0 0])):=⟨HL.out.2.1.2.kept kT (Am.ne HL.out.2.1.2 HB.out (by simp)),Au.turn h0.out kF (HL.out.2.1.1.far kT ap),kF⟩;clear kT ap kF;clear t6;go_wp2_with fail;exact zy (v:=.agg #[i64 0,str nm,.slice (some ⟨g,0,none⟩) 2 2,.slice none 0 0,.slice none 0 0]) (by simp[results,G_,go_sem,r0,r1,r2,r3,r4,Bx]) rfl ⟨g,rfl,HF.out⟩
 ·skip;go_simp;obtain⟨y1,Br⟩:=zn ((N_ w2 (.cells #[u64 (N':Int),u64 (L:Int)] 29)).drew);have pj:Ac w2.drew y1:=by rw[<- Br];exact Kept.newD _ _ _
  have bv:Am y1 (M_ w2).size 29 #[u64 (N':Int),u64 (L:Int)]:=by rw[<- Br];exact zv _ _ _
  obtain⟨g,hg⟩:=zn ((M_ w2).size);rw[hg]at bv;rw[Br,hg];have k1:=Ac.kept (F:=λ j=>j=Y) pj;refine Aj (.slice (some ⟨g,0,none⟩) 2 2) _ (λ _=>k1) ?_;clear Aj;simp only[sA];refine sG 7 12 (λ K Aj=>?_);go_simp;refine(fh.out _ (LO.trans pj)).mono ?_;rintro e y2 ⟨rfl,hs,k2⟩;have hgY:¬ g=Y:=by have:=HZ.out.2.2.2;have:=HZ.out.1.size;rw[<- hg];(try simp);omega
  have bv:=bv.kept k2 hgY;refine Aj (i64 0) _ (λ _=>k2) ?_;clear Aj;simp only[sA];refine sG 18 23 (λ K Aj=>?_);go_simp;refine(F5 ⟨nm,ai,ni,ci,wv,aq,nq,cq,(N':Int),ag,L,cg,ar,nr,cr⟩ _ 2 2 _).mono ?_;rintro e y3 ⟨rfl,Gl⟩;have k3:=Ac.kept (F:=λ j=>j=Y) Gl;have kk:Kept (λ j=>j=Y) w2 y3:=((gz.trans k1).trans k2).trans k3;have HL:PD (Kept (λ j=>j=Y) w2 y3/\(BN y3 Y B hops settles 1 N' D8 none/\Am y3 g 29 #[u64 (N':Int),u64 (L:Int)])/\Am y3 T 42 #[i64 0,.string ⟨#[]⟩,.slice none 0 0,.slice none 0 0,.slice none 0 0]):=⟨kk,⟨hs.grew Gl,bv.grew Gl⟩,HZ.out.2.1.kept kk (show ¬ T=Y by have:=HZ.out.2.2;omega)⟩;clear hs bv kk k1 k2 Gl;refine Aj (.agg #[i64 0,str nm,.slice (some ⟨g,0,none⟩) 2 2,.slice none 0 0,.slice none 0 0]) _ (λ _=>k3) ?_;clear Aj;simp only[sA];refine DH 19 (λ K Aj=>?_);have HB:=zh HL.out.2.2;refine wp_store_row 42 (.tmp 4) (.tmp 23) rfl T #[i64 0,str nm,.slice (some ⟨g,0,none⟩) 2 2,.slice none 0 0,.slice none 0 0] rfl rfl 42 _ HB.out (by kernel_rfl) rfl (AF (by simp[Pf])) ?_;refine Aj _ (λ h=>absurd (by simp) h) ?_;clear Aj;refine dG ?_;have t6:=HB.out.setRow #[i64 0,str nm,.slice (some ⟨g,0,none⟩) 2 2,.slice none 0 0,.slice none 0 0];obtain⟨r0,r1,r2,r3,r4⟩:=LF t6;have kT:Kept (λ j=>j=T) y3 (L_ y3 T #[i64 0,str nm,.slice (some ⟨g,0,none⟩) 2 2,.slice none 0 0,.slice none 0 0]):=(zr (λ j=>j=T) _).setRow (.inl rfl) _;have ap:=A8 HB.out (by simp);have kF:Kept (λ j=>j=Y) w (L_ y3 T #[i64 0,str nm,.slice (some ⟨g,0,none⟩) 2 2,.slice none 0 0,.slice none 0 0]):=((Ac.kept HZ.out.1).trans HL.out.1).setRow (.inr HZ.out.2.2.1) _;have HF:PD (Am (L_ y3 T #[i64 0,str nm,.slice (some ⟨g,0,none⟩) 2 2,.slice none 0 0,.slice none 0 0]) g 29 #[u64 (N':Int),u64 (L:Int)]/\Au (L_ y3 T #[i64 0,str nm,.slice (some ⟨g,0,none⟩) 2 2,.slice none 0 0,.slice none 0 0]) X Y B hops settles 1 N' D8 none/\Kept (λ j=>j=Y) w (L_ y3 T #[i64 0,str nm,.slice (some ⟨g,0,none⟩) 2 2,.slice none 0 0,.slice none 0 0])):=⟨HL.out.2.1.2.kept kT (Am.ne HL.out.2.1.2 HB.out (by simp)),Au.turn h0.out kF (HL.out.2.1.1.far kT ap),kF⟩;clear kT ap kF;clear t6;go_wp2_with fail;exact zy (v:=.agg #[i64 0,str nm,.slice (some ⟨g,0,none⟩) 2 2,.slice none 0 0,.slice none 0 0]) (by simp[results,G_,go_sem,r0,r1,r2,r3,r4,Bx]) rfl ⟨g,rfl,HF.out⟩
theorem eX (c:Cm) (h:Au w X Y B hops settles ph N es hx) (DP:1<=ph/\ph<=3) (hr:Aq N es=0) (hl:es.length<=800) (e:Nat) (he:e<100000) (b off:Nat) (hi:c.ai=some ⟨b,off,none⟩) (tL:c.ni=1) (hc:w.cell? ⟨b,off,none⟩=some (i64 e)) (hbY:b≠Y) (hw:0<=c.wv/\c.wv<18446744073709551616) (hb:e<es.length/\1<=c.wv/\c.wv<=4294967296) (hB:B<=w.heap.size) :
  Pb A_ 59 #[pt X,CV c] w λ r w'=>∃ g,r=.returned (Co 0 c.nm (some ⟨g,0,none⟩) 2 2 none 0 0)/\Am w' g 29 #[u64 (e:Int),u64 c.wv]/\Au w' X Y B hops settles (if ph=2 then 3 else ph) N (BX es e c.wv) hx/\Kept (λ j=>j=Y) w w':=by
 have h0:=zh h
 obtain⟨nm,ai,ni,ci,wv,aq,nq,cq,gn,ag,ng,cg,ar,nr,cr⟩:=c
 dsimp only at *
 obtain⟨w1,AQ,g1,b1⟩:=zb w #[str nm,.slice ai ni ci,u64 wv,.slice aq nq cq,i64 gn,.slice ag ng cg,.slice ar nr cr] 92 rfl
 obtain⟨w2,BM,g2,b2⟩:=zb w1 #[i64 0,.string ⟨#[]⟩,.slice none 0 0,.slice none 0 0,.slice none 0 0] 42 rfl
 obtain⟨T,hT⟩:=zn (w1.heap.size)
 rw[hT]at b2
 have h2:=h.grew (g1.trans g2)
 have AH:=h.lt
 have HC:PD (∀ W',Kept (λ j=>j=Y) w2 W'->W'.cell? ⟨X,0,none⟩=some (pt Y)/\W'.cell? ⟨w.heap.size,0,none⟩=some (str nm)/\W'.cell? ⟨w.heap.size,1,none⟩=some (.slice ai ni ci)/\W'.cell? ⟨w.heap.size,2,none⟩=some (u64 wv)/\W'.cell? ⟨w.heap.size,3,none⟩=some (.slice aq nq cq)/\W'.cell? ⟨w.heap.size,4,none⟩=some (i64 gn)/\W'.cell? ⟨w.heap.size,5,none⟩=some (.slice ag ng cg)/\W'.cell? ⟨w.heap.size,6,none⟩=some (.slice ar nr cr)):=λ W' k=>by
  have hn:¬ (w.heap.size=Y):=(by omega);have b:=(b1.grew g2).kept k hn;obtain⟨left,done,q1,_,q3⟩:=h2;have q:=Am.kept q1 k (show ¬ X=Y from q3.1);have p0:=b.cell 0;have p1:=b.cell 1;have p2:=b.cell 2;have p3:=b.cell 3;have p4:=b.cell 4;have p5:=b.cell 5;have p6:=b.cell 6;have p7:=q.cell 0;simp at p0 p1 p2 p3 p4 p5 p6 p7;exact⟨p7,p0,p1,p2,p3,p4,p5,p6⟩
 have HS:=zh h2
 have HZ:=DS (g1.trans g2) b2 ((by rw[<- hT];exact g1.size:w.heap.size<=T)) AH
 have gz:Kept (λ j=>j=Y) w2 w2.drew:=(zr _ _).drew
 subst hi
 subst tL
 have HI:PD (∀ W',Kept (λ j=>j=Y) w2 W'->W'.cell? ⟨b,off,none⟩=some (i64 e)):=λ W' k=>k.cell (ze (g1.trans g2) hc) hbY
 have fh:=zh (λ W (k:Ac w2 W)=>qe ph N es hx (h2.elim λ _ h=>h.elim λ _ h=>h.2.1.grew k) DP hr hl e wv hb (PG hB ((g1.trans g2).trans k).size))
 obtain⟨wQ,OZ⟩:∃ p,(if ph=2 then 3 else ph)=p:=⟨_,rfl⟩
 rw[OZ]at fh ⊢
 clear hb OZ
 have jK:PI.wrap (e:Int)=(e:Int):=wrapN e (by omega)
 clear h hr hl hB DP h2 AH g1 g2 b1 b2 hc hbY he hw
 go_enter Tryz.func59,Tryz.ntmps59
 go_upto_region 1 with fail
 have e2:(w1.alloc (.cells #[.int .i64 0,.string ⟨#[]⟩,.slice none 0 0,.slice none 0 0,.slice none 0 0] 42))=w2:=BM
 try rw [e2]
 try rw [hT]
 have LO:Ac w2 w2.drew:=(zr _ _).drew
 clear e2 BM hT
 refine rG [21] (λ j=>j=Y) ?_
 refine tG 0 5 (y:=λ w' Ah=>by obtain⟨q7,q0,q1,q2,q3,q4,q5,q6⟩:=HC.out w' (gz.trans Ah);have q9:=HI.out w' (gz.trans Ah);go_simp<;>with_reducible rfl) (h:=?_)
 refine pG 1 6 ?_
 refine pG 2 7 ?_
 refine pG 3 8 ?_
 refine tG 4 9 (y:=λ w' Ah=>by obtain⟨q7,q0,q1,q2,q3,q4,q5,q6⟩:=HC.out w' (gz.trans Ah);have q9:=HI.out w' (gz.trans Ah);go_simp<;>with_reducible rfl) (h:=?_)
 refine pG 5 10 ?_
 refine tG 6 11 (y:=λ w' Ah=>by obtain⟨q7,q0,q1,q2,q3,q4,q5,q6⟩:=HC.out w' (gz.trans Ah);have q9:=HI.out w' (gz.trans Ah);go_simp<;>with_reducible rfl) (h:=?_)
 refine pG 7 12 ?_
 refine tG 8 13 (y:=λ w' Ah=>by obtain⟨q7,q0,q1,q2,q3,q4,q5,q6⟩:=HC.out w' (gz.trans Ah);have q9:=HI.out w' (gz.trans Ah);go_simp<;>with_reducible rfl) (h:=?_)
 refine pG 9 14 ?_
 refine tG 10 15 (y:=λ w' Ah=>by obtain⟨q7,q0,q1,q2,q3,q4,q5,q6⟩:=HC.out w' (gz.trans Ah);have q9:=HI.out w' (gz.trans Ah);go_simp<;>with_reducible rfl) (h:=?_)
 refine pG 12 17 ?_
 refine tG 13 18 (y:=λ w' Ah=>by obtain⟨q7,q0,q1,q2,q3,q4,q5,q6⟩:=HC.out w' (gz.trans Ah);have q9:=HI.out w' (gz.trans Ah);go_simp<;>with_reducible rfl) (h:=?_)
 refine pG 14 19 ?_
 refine tG 15 20 (y:=λ w' Ah=>by obtain⟨q7,q0,q1,q2,q3,q4,q5,q6⟩:=HC.out w' (gz.trans Ah);have q9:=HI.out w' (gz.trans Ah);go_simp<;>with_reducible rfl) (h:=?_)
 refine pG 16 21 ?_
 refine pG 17 22 ?_
 refine tG 18 23 (y:=λ w' Ah=>by obtain⟨q7,q0,q1,q2,q3,q4,q5,q6⟩:=HC.out w' (gz.trans Ah);have q9:=HI.out w' (gz.trans Ah);go_simp<;>with_reducible rfl) (h:=?_)
 refine AP 11 16 19 24 rfl rfl (by kernel_rfl) rfl rfl (by rfl) (by rfl) (λ K Aj=>?_) (λ K Aj=>?_)
 ·skip;go_simp;refine(fh.out _ LO).mono ?_;rintro e y1 ⟨rfl,hs,k1⟩;refine Aj (i64 0) _ (λ _=>k1) ?_;clear Aj;simp only[sA];refine sG 19 24 (λ K Aj=>?_);go_simp;obtain⟨y2,DC⟩:=zn ((N_ y1 (.cells #[u64 (e:Int),u64 wv] 29)));have pn:Ac y1 y2:=by rw[<- DC];exact Ha _ _ _
  have bv:Am y2 (M_ y1).size 29 #[u64 (e:Int),u64 wv]:=by rw[<- DC];exact zv _ _ _
  obtain⟨g,hg⟩:=zn ((M_ y1).size);rw[hg]at bv;rw[DC,hg];have k2:=Ac.kept (F:=λ j=>j=Y) pn;have hs:=hs.grew pn;refine Aj (.slice (some ⟨g,0,none⟩) 2 2) _ (λ _=>k2) ?_;clear Aj;simp only[sA];refine sG 20 25 (λ K Aj=>?_);go_simp;refine(F5 ⟨nm,some ⟨b,off,none⟩,1,ci,wv,aq,nq,cq,gn,ag,ng,cg,ar,nr,cr⟩ _ 2 2 _).mono ?_;rintro e y3 ⟨rfl,Gl⟩;have k3:=Ac.kept (F:=λ j=>j=Y) Gl;have kk:Kept (λ j=>j=Y) w2 y3:=((gz.trans k1).trans k2).trans k3;have HL:PD (Kept (λ j=>j=Y) w2 y3/\(BN y3 Y B hops settles wQ N (BX es e wv) hx/\Am y3 g 29 #[u64 (e:Int),u64 wv])/\Am y3 T 42 #[i64 0,.string ⟨#[]⟩,.slice none 0 0,.slice none 0 0,.slice none 0 0]):=⟨kk,⟨hs.grew Gl,bv.grew Gl⟩,HZ.out.2.1.kept kk (show ¬ T=Y by have:=HZ.out.2.2;omega)⟩;clear hs bv kk k1 k2 Gl;refine Aj (.agg #[i64 0,str nm,.slice (some ⟨g,0,none⟩) 2 2,.slice none 0 0,.slice none 0 0]) _ (λ _=>k3) ?_;clear Aj;simp only[sA];refine DH 21 (λ K Aj=>?_);have HB:=zh HL.out.2.2;refine wp_store_row 42 (.tmp 4) (.tmp 25) rfl T #[i64 0,str nm,.slice (some ⟨g,0,none⟩) 2 2,.slice none 0 0,.slice none 0 0] rfl rfl 42 _ HB.out (by kernel_rfl) rfl (AF (by simp[Pf])) ?_;refine Aj _ (λ h=>absurd (by simp) h) ?_;clear Aj;refine dG ?_;have t6:=HB.out.setRow #[i64 0,str nm,.slice (some ⟨g,0,none⟩) 2 2,.slice none 0 0,.slice none 0 0];obtain⟨r0,r1,r2,r3,r4⟩:=LF t6;have kT:Kept (λ j=>j=T) y3 (L_ y3 T #[i64 0,str nm,.slice (some ⟨g,0,none⟩) 2 2,.slice none 0 0,.slice none 0 0]):=(zr (λ j=>j=T) _).setRow (.inl rfl) _;have ap:=A8 HB.out (by simp);have kF:Kept (λ j=>j=Y) w (L_ y3 T #[i64 0,str nm,.slice (some ⟨g,0,none⟩) 2 2,.slice none 0 0,.slice none 0 0]):=((Ac.kept HZ.out.1).trans HL.out.1).setRow (.inr HZ.out.2.2.1) _;have HF:PD (Am (L_ y3 T #[i64 0,str nm,.slice (some ⟨g,0,none⟩) 2 2,.slice none 0 0,.slice none 0 0]) g 29 #[u64 (e:Int),u64 wv]/\Au (L_ y3 T #[i64 0,str nm,.slice (some ⟨g,0,none⟩) 2 2,.slice none 0 0,.slice none 0 0]) X Y B hops settles wQ N (BX es e wv) hx/\Kept (λ j=>j=Y) w (L_ y3 T #[i64 0,str nm,.slice (some ⟨g,0,none⟩) 2 2,.slice none 0 0,.slice none 0 0])):=⟨HL.out.2.1.2.kept kT (Am.ne HL.out.2.1.2 HB.out (by simp)),Au.turn h0.out kF (HL.out.2.1.1.far kT ap),kF⟩;clear kT ap kF;clear t6;go_wp2_with fail;exact zy (v:=.agg #[i64 0,str nm,.slice (some ⟨g,0,none⟩) 2 2,.slice none 0 0,.slice none 0 0]) (by simp[results,D_,go_sem,r0,r1,r2,r3,r4,Bx]) rfl ⟨g,rfl,HF.out⟩
 ·skip;go_simp;obtain⟨y1,Br⟩:=zn ((N_ w2 (.cells #[u64 (e:Int),u64 wv] 29)).drew);have pj:Ac w2.drew y1:=by rw[<- Br];exact Kept.newD _ _ _
  have bv:Am y1 (M_ w2).size 29 #[u64 (e:Int),u64 wv]:=by rw[<- Br];exact zv _ _ _
  obtain⟨g,hg⟩:=zn ((M_ w2).size);rw[hg]at bv;rw[Br,hg];have k1:=Ac.kept (F:=λ j=>j=Y) pj;refine Aj (.slice (some ⟨g,0,none⟩) 2 2) _ (λ _=>k1) ?_;clear Aj;simp only[sA];refine sG 11 16 (λ K Aj=>?_);go_simp;refine(fh.out _ (LO.trans pj)).mono ?_;rintro e y2 ⟨rfl,hs,k2⟩;have hgY:¬ g=Y:=by have:=HZ.out.2.2.2;have:=HZ.out.1.size;rw[<- hg];(try simp);omega
  have bv:=bv.kept k2 hgY;refine Aj (i64 0) _ (λ _=>k2) ?_;clear Aj;simp only[sA];refine sG 20 25 (λ K Aj=>?_);go_simp;refine(F5 ⟨nm,some ⟨b,off,none⟩,1,ci,wv,aq,nq,cq,gn,ag,ng,cg,ar,nr,cr⟩ _ 2 2 _).mono ?_;rintro e y3 ⟨rfl,Gl⟩;have k3:=Ac.kept (F:=λ j=>j=Y) Gl;have kk:Kept (λ j=>j=Y) w2 y3:=((gz.trans k1).trans k2).trans k3;have HL:PD (Kept (λ j=>j=Y) w2 y3/\(BN y3 Y B hops settles wQ N (BX es e wv) hx/\Am y3 g 29 #[u64 (e:Int),u64 wv])/\Am y3 T 42 #[i64 0,.string ⟨#[]⟩,.slice none 0 0,.slice none 0 0,.slice none 0 0]):=⟨kk,⟨hs.grew Gl,bv.grew Gl⟩,HZ.out.2.1.kept kk (show ¬ T=Y by have:=HZ.out.2.2;omega)⟩;clear hs bv kk k1 k2 Gl;refine Aj (.agg #[i64 0,str nm,.slice (some ⟨g,0,none⟩) 2 2,.slice none 0 0,.slice none 0 0]) _ (λ _=>k3) ?_;clear Aj;simp only[sA];refine DH 21 (λ K Aj=>?_);have HB:=zh HL.out.2.2;refine wp_store_row 42 (.tmp 4) (.tmp 25) rfl T #[i64 0,str nm,.slice (some ⟨g,0,none⟩) 2 2,.slice none 0 0,.slice none 0 0] rfl rfl 42 _ HB.out (by kernel_rfl) rfl (AF (by simp[Pf])) ?_;refine Aj _ (λ h=>absurd (by simp) h) ?_;clear Aj;refine dG ?_;have t6:=HB.out.setRow #[i64 0,str nm,.slice (some ⟨g,0,none⟩) 2 2,.slice none 0 0,.slice none 0 0];obtain⟨r0,r1,r2,r3,r4⟩:=LF t6;have kT:Kept (λ j=>j=T) y3 (L_ y3 T #[i64 0,str nm,.slice (some ⟨g,0,none⟩) 2 2,.slice none 0 0,.slice none 0 0]):=(zr (λ j=>j=T) _).setRow (.inl rfl) _;have ap:=A8 HB.out (by simp);have kF:Kept (λ j=>j=Y) w (L_ y3 T #[i64 0,str nm,.slice (some ⟨g,0,none⟩) 2 2,.slice none 0 0,.slice none 0 0]):=((Ac.kept HZ.out.1).trans HL.out.1).setRow (.inr HZ.out.2.2.1) _;have HF:PD (Am (L_ y3 T #[i64 0,str nm,.slice (some ⟨g,0,none⟩) 2 2,.slice none 0 0,.slice none 0 0]) g 29 #[u64 (e:Int),u64 wv]/\Au (L_ y3 T #[i64 0,str nm,.slice (some ⟨g,0,none⟩) 2 2,.slice none 0 0,.slice none 0 0]) X Y B hops settles wQ N (BX es e wv) hx/\Kept (λ j=>j=Y) w (L_ y3 T #[i64 0,str nm,.slice (some ⟨g,0,none⟩) 2 2,.slice none 0 0,.slice none 0 0])):=⟨HL.out.2.1.2.kept kT (Am.ne HL.out.2.1.2 HB.out (by simp)),Au.turn h0.out kF (HL.out.2.1.1.far kT ap),kF⟩;clear kT ap kF;clear t6;go_wp2_with fail;exact zy (v:=.agg #[i64 0,str nm,.slice (some ⟨g,0,none⟩) 2 2,.slice none 0 0,.slice none 0 0]) (by simp[results,D_,go_sem,r0,r1,r2,r3,r4,Bx]) rfl ⟨g,rfl,HF.out⟩
theorem lv (c:Cm) (h:Au w X Y B hops settles ph N es hx) (DP:1<=ph/\ph<=3) (hr:Aq N es=0) (hl:es.length<=800) (e:Nat) (he:e<100000) (b off:Nat) (hi:c.ai=some ⟨b,off,none⟩) (tL:c.ni=1) (hc:w.cell? ⟨b,off,none⟩=some (i64 e)) (hbY:b≠Y) (hw:0<=c.wv/\c.wv<18446744073709551616) (hb:BW es e c.wv≠0) (hB:B<=w.heap.size) :
  Pb A_ 59 #[pt X,CV c] w λ r w'=>r=.returned (Bx (BW es e c.wv))/\Au w' X Y B hops settles ph N es hx/\Kept (λ j=>j=Y) w w':=by
 have h0:=zh h
 obtain⟨nm,ai,ni,ci,wv,aq,nq,cq,gn,ag,ng,cg,ar,nr,cr⟩:=c
 dsimp only at *
 obtain⟨w1,AQ,g1,b1⟩:=zb w #[str nm,.slice ai ni ci,u64 wv,.slice aq nq cq,i64 gn,.slice ag ng cg,.slice ar nr cr] 92 rfl
 obtain⟨w2,BM,g2,b2⟩:=zb w1 #[i64 0,.string ⟨#[]⟩,.slice none 0 0,.slice none 0 0,.slice none 0 0] 42 rfl
 obtain⟨T,hT⟩:=zn (w1.heap.size)
 rw[hT]at b2
 have h2:=h.grew (g1.trans g2)
 have AH:=h.lt
 have HC:PD (∀ W',Kept (λ j=>j=Y) w2 W'->W'.cell? ⟨X,0,none⟩=some (pt Y)/\W'.cell? ⟨w.heap.size,0,none⟩=some (str nm)/\W'.cell? ⟨w.heap.size,1,none⟩=some (.slice ai ni ci)/\W'.cell? ⟨w.heap.size,2,none⟩=some (u64 wv)/\W'.cell? ⟨w.heap.size,3,none⟩=some (.slice aq nq cq)/\W'.cell? ⟨w.heap.size,4,none⟩=some (i64 gn)/\W'.cell? ⟨w.heap.size,5,none⟩=some (.slice ag ng cg)/\W'.cell? ⟨w.heap.size,6,none⟩=some (.slice ar nr cr)):=λ W' k=>by
  have hn:¬ (w.heap.size=Y):=(by omega);have b:=(b1.grew g2).kept k hn;obtain⟨left,done,q1,_,q3⟩:=h2;have q:=Am.kept q1 k (show ¬ X=Y from q3.1);have p0:=b.cell 0;have p1:=b.cell 1;have p2:=b.cell 2;have p3:=b.cell 3;have p4:=b.cell 4;have p5:=b.cell 5;have p6:=b.cell 6;have p7:=q.cell 0;simp at p0 p1 p2 p3 p4 p5 p6 p7;exact⟨p7,p0,p1,p2,p3,p4,p5,p6⟩
 have HS:=zh h2
 have HZ:=DS (g1.trans g2) b2 ((by rw[<- hT];exact g1.size:w.heap.size<=T)) AH
 have gz:Kept (λ j=>j=Y) w2 w2.drew:=(zr _ _).drew
 subst hi
 subst tL
 have HI:PD (∀ W',Kept (λ j=>j=Y) w2 W'->W'.cell? ⟨b,off,none⟩=some (i64 e)):=λ W' k=>k.cell (ze (g1.trans g2) hc) hbY
 have Ho:1<=BW es e wv/\BW es e wv<15:=by
  refine⟨by omega,?_⟩;unfold BW;split
  ·split<;>omega
  ·omega
 have fh:=zh (λ W (k:Ac w2 W)=>(uI ph N es hx (h2.elim λ _ h=>h.elim λ _ h=>h.2.1.grew k) DP hr hl e wv hb).mono λ r w' (hh:r=.returned (i64 (BW es e wv))/\Ac W w')=>(⟨hh.1,((h2.elim λ _ h=>h.elim λ _ h=>h.2.1.grew k):BN W Y B hops settles ph N es hx).grew hh.2,hh.2.kept⟩:r=.returned (i64 (BW es e wv))/\BN w' Y B hops settles ph N es hx/\Kept (λ j=>j=Y) W w'))
 obtain⟨f,hf⟩:=zn (BW es e wv)
 rw[hf]at fh Ho ⊢
 clear hb hf
 have jK:PI.wrap (e:Int)=(e:Int):=wrapN e (by omega)
 clear h hr hl hB DP h2 AH g1 g2 b1 b2 hc hbY he hw
 go_enter Tryz.func59,Tryz.ntmps59
 go_upto_region 1 with fail
 have e2:(w1.alloc (.cells #[.int .i64 0,.string ⟨#[]⟩,.slice none 0 0,.slice none 0 0,.slice none 0 0] 42))=w2:=BM
 try rw [e2]
 try rw [hT]
 have LO:Ac w2 w2.drew:=(zr _ _).drew
 clear e2 BM hT
 refine rG [21] (λ j=>j=Y) ?_
 refine tG 0 5 (y:=λ w' Ah=>by obtain⟨q7,q0,q1,q2,q3,q4,q5,q6⟩:=HC.out w' (gz.trans Ah);have q9:=HI.out w' (gz.trans Ah);go_simp<;>with_reducible rfl) (h:=?_)
 refine pG 1 6 ?_
 refine pG 2 7 ?_
 refine pG 3 8 ?_
 refine tG 4 9 (y:=λ w' Ah=>by obtain⟨q7,q0,q1,q2,q3,q4,q5,q6⟩:=HC.out w' (gz.trans Ah);have q9:=HI.out w' (gz.trans Ah);go_simp<;>with_reducible rfl) (h:=?_)
 refine pG 5 10 ?_
 refine tG 6 11 (y:=λ w' Ah=>by obtain⟨q7,q0,q1,q2,q3,q4,q5,q6⟩:=HC.out w' (gz.trans Ah);have q9:=HI.out w' (gz.trans Ah);go_simp<;>with_reducible rfl) (h:=?_)
 refine pG 7 12 ?_
 refine tG 8 13 (y:=λ w' Ah=>by obtain⟨q7,q0,q1,q2,q3,q4,q5,q6⟩:=HC.out w' (gz.trans Ah);have q9:=HI.out w' (gz.trans Ah);go_simp<;>with_reducible rfl) (h:=?_)
 refine pG 9 14 ?_
 refine tG 10 15 (y:=λ w' Ah=>by obtain⟨q7,q0,q1,q2,q3,q4,q5,q6⟩:=HC.out w' (gz.trans Ah);have q9:=HI.out w' (gz.trans Ah);go_simp<;>with_reducible rfl) (h:=?_)
 refine pG 12 17 ?_
 refine tG 13 18 (y:=λ w' Ah=>by obtain⟨q7,q0,q1,q2,q3,q4,q5,q6⟩:=HC.out w' (gz.trans Ah);have q9:=HI.out w' (gz.trans Ah);go_simp<;>with_reducible rfl) (h:=?_)
 refine pG 14 19 ?_
 refine tG 15 20 (y:=λ w' Ah=>by obtain⟨q7,q0,q1,q2,q3,q4,q5,q6⟩:=HC.out w' (gz.trans Ah);have q9:=HI.out w' (gz.trans Ah);go_simp<;>with_reducible rfl) (h:=?_)
 refine pG 16 21 ?_
 refine pG 17 22 ?_
 refine tG 18 23 (y:=λ w' Ah=>by obtain⟨q7,q0,q1,q2,q3,q4,q5,q6⟩:=HC.out w' (gz.trans Ah);have q9:=HI.out w' (gz.trans Ah);go_simp<;>with_reducible rfl) (h:=?_)
 refine AP 11 16 19 24 rfl rfl (by kernel_rfl) rfl rfl (by rfl) (by rfl) (λ K Aj=>?_) (λ K Aj=>?_)
 ·skip;go_simp;refine(fh.out _ LO).mono ?_;rintro e y1 ⟨rfl,hs,k1⟩;refine Aj (i64 f) _ (λ _=>k1) ?_;clear Aj;simp only[sA];refine sG 19 24 (λ K Aj=>?_);go_simp;obtain⟨y2,DC⟩:=zn ((N_ y1 (.cells #[u64 (e:Int),u64 wv] 29)));have pn:Ac y1 y2:=by rw[<- DC];exact Ha _ _ _
  have bv:Am y2 (M_ y1).size 29 #[u64 (e:Int),u64 wv]:=by rw[<- DC];exact zv _ _ _
  obtain⟨g,hg⟩:=zn ((M_ y1).size);rw[hg]at bv;rw[DC,hg];have k2:=Ac.kept (F:=λ j=>j=Y) pn;have hs:=hs.grew pn;refine Aj (.slice (some ⟨g,0,none⟩) 2 2) _ (λ _=>k2) ?_;clear Aj;simp only[sA];refine sG 20 25 (λ K Aj=>?_);go_simp;refine(Lm ⟨nm,some ⟨b,off,none⟩,1,ci,wv,aq,nq,cq,gn,ag,ng,cg,ar,nr,cr⟩ f (by assumption) _ 2 2 _).mono ?_;rintro e y3 ⟨rfl,Gl⟩;have k3:=Ac.kept (F:=λ j=>j=Y) Gl;have kk:Kept (λ j=>j=Y) w2 y3:=((gz.trans k1).trans k2).trans k3;have HL:PD (Kept (λ j=>j=Y) w2 y3/\(BN y3 Y B hops settles ph N es hx/\Am y3 g 29 #[u64 (e:Int),u64 wv])/\Am y3 T 42 #[i64 0,.string ⟨#[]⟩,.slice none 0 0,.slice none 0 0,.slice none 0 0]):=⟨kk,⟨hs.grew Gl,bv.grew Gl⟩,HZ.out.2.1.kept kk (show ¬ T=Y by have:=HZ.out.2.2;omega)⟩;clear hs bv kk k1 k2 Gl;unfold Bx;refine Aj (.agg #[i64 f,.string ⟨#[]⟩,.slice none 0 0,.slice none 0 0,.slice none 0 0]) _ (λ _=>k3) ?_;clear Aj;simp only[sA];refine DH 21 (λ K Aj=>?_);have HB:=zh HL.out.2.2;refine wp_store_row 42 (.tmp 4) (.tmp 25) rfl T #[i64 f,.string ⟨#[]⟩,.slice none 0 0,.slice none 0 0,.slice none 0 0] rfl rfl 42 _ HB.out (by kernel_rfl) rfl (AF (by simp[Pf])) ?_;refine Aj _ (λ h=>absurd (by simp) h) ?_;clear Aj;refine dG ?_;have t6:=HB.out.setRow #[i64 f,.string ⟨#[]⟩,.slice none 0 0,.slice none 0 0,.slice none 0 0];obtain⟨r0,r1,r2,r3,r4⟩:=LF t6;have kT:Kept (λ j=>j=T) y3 (L_ y3 T #[i64 f,.string ⟨#[]⟩,.slice none 0 0,.slice none 0 0,.slice none 0 0]):=(zr (λ j=>j=T) _).setRow (.inl rfl) _;have ap:=A8 HB.out (by simp);have kF:Kept (λ j=>j=Y) w (L_ y3 T #[i64 f,.string ⟨#[]⟩,.slice none 0 0,.slice none 0 0,.slice none 0 0]):=((Ac.kept HZ.out.1).trans HL.out.1).setRow (.inr HZ.out.2.2.1) _;have HF:PD (Au (L_ y3 T #[i64 f,.string ⟨#[]⟩,.slice none 0 0,.slice none 0 0,.slice none 0 0]) X Y B hops settles ph N es hx/\Kept (λ j=>j=Y) w (L_ y3 T #[i64 f,.string ⟨#[]⟩,.slice none 0 0,.slice none 0 0,.slice none 0 0])):=⟨Au.turn h0.out kF (HL.out.2.1.1.far kT ap),kF⟩;clear kT ap kF;clear t6;go_wp2_with fail;exact zy (v:=.agg #[i64 f,.string ⟨#[]⟩,.slice none 0 0,.slice none 0 0,.slice none 0 0]) (by simp[results,D_,go_sem,r0,r1,r2,r3,r4,Bx]) rfl ⟨rfl,HF.out⟩
 ·skip;go_simp;obtain⟨y1,Br⟩:=zn ((N_ w2 (.cells #[u64 (e:Int),u64 wv] 29)).drew);have pj:Ac w2.drew y1:=by rw[<- Br];exact Kept.newD _ _ _
  have bv:Am y1 (M_ w2).size 29 #[u64 (e:Int),u64 wv]:=by rw[<- Br];exact zv _ _ _
  obtain⟨g,hg⟩:=zn ((M_ w2).size);rw[hg]at bv;rw[Br,hg];have k1:=Ac.kept (F:=λ j=>j=Y) pj;refine Aj (.slice (some ⟨g,0,none⟩) 2 2) _ (λ _=>k1) ?_;clear Aj;simp only[sA];refine sG 11 16 (λ K Aj=>?_);go_simp;refine(fh.out _ (LO.trans pj)).mono ?_;rintro e y2 ⟨rfl,hs,k2⟩;have hgY:¬ g=Y:=by have:=HZ.out.2.2.2;have:=HZ.out.1.size;rw[<- hg];(try simp);omega
  have bv:=bv.kept k2 hgY;refine Aj (i64 f) _ (λ _=>k2) ?_;clear Aj;simp only[sA];refine sG 20 25 (λ K Aj=>?_);go_simp;refine(Lm ⟨nm,some ⟨b,off,none⟩,1,ci,wv,aq,nq,cq,gn,ag,ng,cg,ar,nr,cr⟩ f (by assumption) _ 2 2 _).mono ?_;rintro e y3 ⟨rfl,Gl⟩;have k3:=Ac.kept (F:=λ j=>j=Y) Gl;have kk:Kept (λ j=>j=Y) w2 y3:=((gz.trans k1).trans k2).trans k3;have HL:PD (Kept (λ j=>j=Y) w2 y3/\(BN y3 Y B hops settles ph N es hx/\Am y3 g 29 #[u64 (e:Int),u64 wv])/\Am y3 T 42 #[i64 0,.string ⟨#[]⟩,.slice none 0 0,.slice none 0 0,.slice none 0 0]):=⟨kk,⟨hs.grew Gl,bv.grew Gl⟩,HZ.out.2.1.kept kk (show ¬ T=Y by have:=HZ.out.2.2;omega)⟩;clear hs bv kk k1 k2 Gl;unfold Bx;refine Aj (.agg #[i64 f,.string ⟨#[]⟩,.slice none 0 0,.slice none 0 0,.slice none 0 0]) _ (λ _=>k3) ?_;clear Aj;simp only[sA];refine DH 21 (λ K Aj=>?_);have HB:=zh HL.out.2.2;refine wp_store_row 42 (.tmp 4) (.tmp 25) rfl T #[i64 f,.string ⟨#[]⟩,.slice none 0 0,.slice none 0 0,.slice none 0 0] rfl rfl 42 _ HB.out (by kernel_rfl) rfl (AF (by simp[Pf])) ?_;refine Aj _ (λ h=>absurd (by simp) h) ?_;clear Aj;refine dG ?_;have t6:=HB.out.setRow #[i64 f,.string ⟨#[]⟩,.slice none 0 0,.slice none 0 0,.slice none 0 0];obtain⟨r0,r1,r2,r3,r4⟩:=LF t6;have kT:Kept (λ j=>j=T) y3 (L_ y3 T #[i64 f,.string ⟨#[]⟩,.slice none 0 0,.slice none 0 0,.slice none 0 0]):=(zr (λ j=>j=T) _).setRow (.inl rfl) _;have ap:=A8 HB.out (by simp);have kF:Kept (λ j=>j=Y) w (L_ y3 T #[i64 f,.string ⟨#[]⟩,.slice none 0 0,.slice none 0 0,.slice none 0 0]):=((Ac.kept HZ.out.1).trans HL.out.1).setRow (.inr HZ.out.2.2.1) _;have HF:PD (Au (L_ y3 T #[i64 f,.string ⟨#[]⟩,.slice none 0 0,.slice none 0 0,.slice none 0 0]) X Y B hops settles ph N es hx/\Kept (λ j=>j=Y) w (L_ y3 T #[i64 f,.string ⟨#[]⟩,.slice none 0 0,.slice none 0 0,.slice none 0 0])):=⟨Au.turn h0.out kF (HL.out.2.1.1.far kT ap),kF⟩;clear kT ap kF;clear t6;go_wp2_with fail;exact zy (v:=.agg #[i64 f,.string ⟨#[]⟩,.slice none 0 0,.slice none 0 0,.slice none 0 0]) (by simp[results,D_,go_sem,r0,r1,r2,r3,r4,Bx]) rfl ⟨rfl,HF.out⟩
end
def IC (k:Nat):ByteArray:=⟨#[101,114,114,111,114,32]⟩++wd k
theorem uR:∀ k,(wd k).size<=100:=by
 intro k;unfold wd;rw[List.getD_eq_getElem?_getD];cases h:NX[k]? with
 | none=>simp[ByteArray.size]
 | some x =>
  have hx:x∈NX:=zm h;simp only[Option.getD_some];revert x;intro x _ hx;simp only[NX,List.mem_cons,List.mem_nil_iff,or_false]at hx;rcases hx with rfl | rfl | rfl | rfl | rfl | rfl | rfl | rfl | rfl | rfl | rfl | rfl | rfl | rfl | rfl<;>decide
theorem NJ (k:Nat) (hk:1<=k/\k<15) (w:Pa):Pb A_ 66 #[Bx k] w λ e w'=>e=.returned (.bool true)/\Ac w w':=by
 have hI:=zh (λ W=>GA (k:Int) W);have hb:zP (k:Int)=true:=zt (by omega);rw[hb]at hI;have Fj:((k:Int) != 0)=true:=by simp;omega
 clear hb;unfold Bx;obtain⟨w1,AQ,g1,b1⟩:=zb w #[i64 k,.string ⟨#[]⟩,.slice none 0 0,.slice none 0 0,.slice none 0 0] 42 rfl;have x0:=b1.cell 0;simp at x0;have H0:=BP g1 b1;clear g1 b1 hk;go_enter Tryz.func66,Tryz.ntmps66;go_wp2_with fail;refine(hI.out _).mono ?_;rintro e w2 ⟨rfl,k2⟩;have b2:=H0.out.2.grew k2;have x1:=b2.cell 1;have x2:=b2.cell 2;have x3:=b2.cell 3;have x4:=b2.cell 4;simp at x1 x2 x3 x4;have HF:=zh (H0.out.1.trans k2);clear b2 k2 H0 hI;go_wp2_with fail;go_ret;exact⟨rfl,HF.out⟩
theorem NB (k:Nat) (hk:1<=k/\k<15) (w:Pa):Pb A_ 36 #[Bx k] w λ e w'=>e=.returned (.string (IC k))/\Ac w w':=by
 have Fj:((k:Int) != 0)=true:=by simp;omega
 have HW:=zh (λ W=>M6 k hk.2 W);have z:=uR k;obtain⟨z1,z2⟩:=nh (a:=⟨#[101,114,114,111,114,32]⟩) (b:=wd k) (by have:(⟨#[101,114,114,111,114,32]⟩:ByteArray).size=6:=rfl;omega);have z3:(⟨#[101,114,114,111,114,32]⟩:ByteArray).size=6:=rfl;have z4:¬ 9223372036854775807<6+(wd k).size:=z2;have z5:⟨#[101,114,114,111,114,32]⟩++wd k=IC k:=rfl;obtain⟨w1,AQ,g1,b1⟩:=zb w #[i64 k,.string ⟨#[]⟩,.slice none 0 0,.slice none 0 0,.slice none 0 0] 42 rfl;have HR:=NJ k hk w1;unfold Bx at HR ⊢;have HR:=zh HR;have x0:=b1.cell 0;have x1:=b1.cell 1;have x2:=b1.cell 2;have x3:=b1.cell 3;have x4:=b1.cell 4;simp at x0 x1 x2 x3 x4;have H0:=BP g1 b1;clear g1 b1 hk z;go_enter Tryz.func36,Tryz.ntmps36;go_wp2_with fail;refine HR.out.mono ?_;rintro e w2 ⟨rfl,k2⟩;have b2:=H0.out.2.grew k2;have y0:=b2.cell 0;simp at y0;have H2:=zh (H0.out.1.trans k2);clear b2 k2 HR x0 x1 x2 x3 x4;go_wp2_with fail;refine(HW.out _).mono ?_;rintro e w3 ⟨rfl,k3⟩;have HF:=zh (H2.out.trans k3);clear k3 H2;go_wp2_with fail;go_ret;exact⟨rfl,HF.out⟩
def Ga (w:Pa) (A:Option Pc) (rs:List (List Nat×Nat)):Prop:=∀ (i:Nat) (r:List Nat×Nat),rs[i]? = some r->∃ b off Ae ce,A=some ⟨b,off,none⟩/\b<w.heap.size/\w.cell? ⟨b,off+i*2,none⟩=some (.slice Ae r.1.length ce)/\w.cell? ⟨b,off+i*2+1,none⟩=some (u64 (r.2:Int))/\RowI w Ae (r.1.map λ (n:Nat)=>(n:Int))/\(∀ a,Ae=some a->a.block<w.heap.size)
theorem Ga.kept {B:Nat} {w w':Pa} {A:Option Pc} {rs:List (List Nat×Nat)} (h:Ga w A rs) (hK:Kept (λ j=>B<=j) w w') (hB:w.heap.size<=B):Ga w' A rs:=λ i r hr=>by
 obtain⟨b,off,Ae,ce,hA,hb,c0,c1,AY,tp⟩:=h i r hr;have nB:∀ j,j<w.heap.size->¬ B<=j:=λ j hj hle=>by omega
 exact⟨b,off,Ae,ce,hA,PF hb hK.size,hK.cell c0 (nB _ hb),hK.cell c1 (nB _ hb),AY.kept hK (λ a ha=>nB _ (tp a ha)),λ a ha=>PF (tp a ha) hK.size⟩
theorem Ga.grew {w w':Pa} {A:Option Pc} {rs:List (List Nat×Nat)} (h:Ga w A rs) (k:Ac w w'):Ga w' A rs:=h.kept (B:=w.heap.size) k.kept (zl _)
theorem D4.keptB {B:Nat} {w w':Pa} {A:Option Pc} {l:List Int} (h:D4 w A l) (hK:Kept (λ j=>B<=j) w w') (hB:w.heap.size<=B):D4 w' A l:=λ i x hx=>by
 obtain⟨b,off,hA,hb,hc⟩:=h i x hx;exact⟨b,off,hA,PF hb hK.size,hK.cell hc (show ¬ B<=b by omega)⟩
def uG (rs:List (List Nat×Nat)):Prop:=∀ r∈rs,r.1.length<=1000/\(∀ z∈r.1,z<100)/\r.2<100
theorem kU (r:List Nat×Nat):B7 r≠[]:=by
 unfold B7;intro h;have:=congrArg List.length h;simp at this
theorem NK (A:Option Pc) (c:Nat) (rs:List (List Nat×Nat)) (w:Pa) (h:Ga w A rs) (Ba:uG rs) (hl:rs.length<=1000) :
  Pb A_ 107 #[.slice A rs.length c,.func (.func 108) #[] #[]] w λ e w'=>e=.returned (.bool false)/\Ac w w':=by
 obtain⟨L,hL⟩:=zn (rs.length)
 have H0:=DK h hL Ba
 rw[hL]at hl ⊢
 clear h hL Ba
 have HI:PD (Pb A_ 163 #[.slice A L c,.func (.func 108) #[] #[]] w λ e w'=>e=.returned (i64 (-1))/\Ac w w'):=zh (by
  go_enter Tryz.func163,Tryz.ntmps163;go_wp2_with fail;go_loopw [8] (λ i wr=>∃ k:Nat,k<=L/\i=.int .i64 k/\PD (Ac w wr)) (λ i _=>L-(intOf i).toNat)
  case atStart=>exact⟨0,by omega,rfl,zh (zr _ _)⟩
  case round =>
   obtain⟨k,hk,rfl,hg⟩:=hrel;by_cases AH:k<L
   ·have k0:(0:Int)<=(k:Int):=(by omega);have k1:(k:Int)<(L:Int):=(by omega);obtain⟨r,hr⟩:=zx (l:=rs) (i:=k) (by rw[H0.out.2.1];exact AH);obtain⟨b,off,Ae,ce,hA,hb,c0,c1,AY,_⟩:=(H0.out.1.grew hg.out) k r hr;subst hA;obtain⟨q1,q2,q3⟩:=H0.out.2.2 r (zm hr);obtain⟨ed,wt⟩:=r;have HN:PD (Pb A_ 108 #[.agg #[.slice Ae ed.length ce,u64 wt]] wr λ e w'=>e=.returned (.bool false)/\Ac wr w'):=zh (by
     obtain⟨w1,AQ,g1,b1⟩:=zb wr #[.slice Ae ed.length ce,u64 wt] 133 rfl
     have HR:=zh (MH Ae ce wt ed w1 (RowI.grew AY g1) q1 q2 q3)
     obtain⟨L2,nS⟩:=zn (ed.length)
     rw[nS]at AQ b1 HR ⊢
     have x0:=b1.cell 0
     have x1:=b1.cell 1
     simp at x0 x1
     have Bm:=kU (ed,wt)
     obtain⟨t,ht⟩:=zn (B7 (ed,wt))
     rw[ht]at HR Bm
     have e1:((bs t).toList==[])=false:=by rw[Al];exact beq_eq_false_iff_ne.2 Bm
     have e2:(bs t).toList.isEmpty=false:=by rw[Al];exact Pv.2 Bm
     have e3:¬ (bs t).toList=[]:=by rw[Al];exact Bm
     have G1:=zh g1
     clear hr hb c0 c1 AY q1 q2 q3 g1 b1 Bm ht nS
     go_enter Tryz.func108,Tryz.ntmps108
     go_wp2_with fail
     have e4:wr.alloc (.cells #[.slice Ae L2 ce,.int .u64 (wt:Int)] 133)=w1:=AQ
     try rw [e4]
     clear e4 AQ
     refine HR.out.mono ?_
     rintro e w2 ⟨rfl,k2⟩
     have HF:=zh (G1.out.trans k2)
     clear HR k2 G1
     go_wp2_with fail
     go_ret
     exact⟨by simp[e1,e2,e3],HF.out⟩)
    obtain⟨L2,nS⟩:=zn (ed.length);dsimp only at c0 c1;rw[nS]at c0 HN;clear hr hb AY q1 q2 q3 nS;go_wp2_with fail;refine HN.out.mono ?_;rintro e w2 ⟨rfl,k2⟩;have cB:=zh (hg.out.trans k2);clear HN k2;go_wp2_with fail;go_roundw
    case rel=>exact⟨k+1,by omega,by go_num,cB⟩
    case measure=>simp[intOf];omega
   ·obtain rfl:k=L:=(by omega);go_wp2_with fail;go_ret;exact⟨rfl,hg.out⟩)
 go_enter Tryz.func107,Tryz.ntmps107
 go_wp2_with fail
 refine HI.out.mono ?_
 rintro e w9 ⟨rfl,k9⟩
 go_wp2_with fail
 go_ret
 exact⟨rfl,k9⟩
theorem aU (nm:List UInt8) (A A2:Option Pc) (n c c2:Nat) (rs:List (List Nat×Nat)) (w:Pa) (Cw:Cp nm) (hnl:nm.length<=1000) (h:Ga w A2 rs) (Ba:uG rs) (hl:rs.length<=1000) :
  Pb A_ 66 #[Co 0 nm A n c A2 rs.length c2] w λ e w'=>e=.returned (.bool true)/\Ac w w':=by
 have HO:=zh (λ W=>uu nm Cw (by omega) W)
 have HW:=zh (λ W=>aB 0 none (.func (.func 104) #[] #[]) W)
 have HR:=zh (λ W (k:Ac w W)=>NK A2 c2 rs W (h.grew k) Ba hl)
 obtain⟨L,hL⟩:=zn (rs.length)
 rw[hL]at HR ⊢
 clear h Ba hl Cw hnl hL
 obtain⟨w1,AQ,g1,b1⟩:=zb w #[i64 0,str nm,.slice A n c,.slice A2 L c2,.slice none 0 0] 42 rfl
 have x0:=b1.cell 0
 have x1:=b1.cell 1
 simp at x0 x1
 have H0:=BP g1 b1
 clear g1 b1
 go_enter Tryz.func66,Tryz.ntmps66
 go_wp2_with fail
 have e4:w.alloc (.cells #[.int .i64 0,.string (bs nm),.slice A n c,.slice A2 L c2,.slice none 0 0] 42)=w1:=AQ
 try rw [e4]
 clear e4 AQ
 refine(HO.out _).mono ?_
 rintro e w2 ⟨rfl,k2⟩
 have b2:=H0.out.2.grew k2
 have x3:=b2.cell 3
 have x4:=b2.cell 4
 simp at x3 x4
 have H2:=zh (H0.out.1.trans k2)
 have xy:=zh (HR.out w2 H2.out)
 clear b2 k2 H0 HO HR x0 x1
 go_wp2_with fail
 refine(HW.out _).mono ?_
 rintro e w9 ⟨rfl,rfl⟩
 clear HW
 go_wp2_with fail
 refine xy.out.mono ?_
 rintro e w3 ⟨rfl,k3⟩
 have HF:=zh (H2.out.trans k3)
 clear k3 xy H2
 go_wp2_with fail
 go_ret
 exact⟨rfl,HF.out⟩
def Bz (nm:List UInt8) (nums:List Nat) (rs:List (List Nat×Nat)):List (List UInt8):=[[111,107],nm]++nums.map dec++rs.map B7
structure On (w1:Pa) (B G:Nat) (ws:List (List UInt8)) (wr:Pa):Prop where
 line:∃ v,Am wr G 40 #[v]/\BD wr B v ws
 kept:Kept (λ j=>B<=j) w1 wr
theorem On.put {w1 wr w':Pa} {B G:Nat} {ws:List (List UInt8)} {x:List UInt8} (h:On w1 B G ws wr) (hl:(∃ v',Am w' G 40 #[v']/\BD w' B v' (ws++[x]))/\Kept (λ j=>B<=j) wr w'):On w1 B G (ws++[x]) w':=⟨hl.1,h.kept.trans hl.2⟩
theorem On.grew {w1 wr w':Pa} {B G:Nat} {ws:List (List UInt8)} (h:On w1 B G ws wr) (k:Ac wr w'):On w1 B G ws w':=by
 obtain⟨v,h1,h2⟩:=h.line;exact⟨⟨v,h1.grew k,h2.grew k⟩,h.kept.grew k⟩
theorem pP {w1 wr:Pa} {B G:Nat} {ws:List (List UInt8)} (h:On w1 B G ws wr) (x:List UInt8) (hGB:B<=G) (hl:ws.length<=1000) (hB:B<=w1.heap.size) (w2:Pa) (k:Ac wr w2) (g:Nat) (hg:Am w2 g 9 #[str x]) :
  Pb A_ 68 #[.slice (some ⟨g,0,none⟩) 1 1,pt G] w2 λ e w'=>e=.returned (.tuple #[])/\On w1 B G (ws++[x]) w':=by
 have h2:=h.grew k
 obtain⟨v,Gk,GO⟩:=h2.line
 exact(put_any B G g ws x w2 v Gk GO hGB hl hg (PG hB h2.kept.size)).mono λ e w' ⟨h3,h4⟩=>⟨h3,h2.put h4⟩
theorem ky {w:Pa} {B:Nat} {v:Pd} {A:Option Pc} {n c:Nat} {zs:List (List UInt8)} (h:BD w B v zs) (hv:v=.slice A n c):zs.length<=c:=by
 subst hv;rcases h.2 with ⟨hv,h0⟩ | ⟨g,cap,cur,hv,hb,hg,h3,_⟩
 ·omega
 ·cases hv;omega
theorem Je (nm:List UInt8) (A A2:Option Pc) (c c2:Nat) (nums:List Nat) (rs:List (List Nat×Nat)) (w:Pa) (Cw:Cp nm) (hnl:nm.length<=100) (hU:D4 w A (nums.map λ (n:Nat)=>(n:Int))) (hn:nums.length<=100) (Hv:∀ n∈nums,n<100) (h:Ga w A2 rs) (Ba:uG rs) (hl:rs.length<=100) (hlen:(At (Bz nm nums rs)).length<=100000) :
  Pb A_ 36 #[Co 0 nm A nums.length c A2 rs.length c2] w λ e w'=>e=.returned (str (At (Bz nm nums rs)))/\Ac w w':=by
 obtain⟨w1,AQ,g1,b1⟩:=zb w #[i64 0,str nm,.slice A nums.length c,.slice A2 rs.length c2,.slice none 0 0] 42 rfl
 have HR:=zh (aU nm A A2 nums.length c c2 rs w1 Cw (by omega) (h.grew g1) Ba (by omega))
 obtain⟨L,hL⟩:=zn (rs.length)
 obtain⟨M,hM⟩:=zn (nums.length)
 rw[hL,hM]at HR b1 AQ ⊢
 rw[hL]at hl
 rw[hM]at hn
 have x0:=b1.cell 0
 have x1:=b1.cell 1
 have x2:=b1.cell 2
 have x3:=b1.cell 3
 have x4:=b1.cell 4
 simp at x0 x1 x2 x3 x4
 have H0:=DS g1 b1 (hU.grew g1) (h.grew g1)
 have HP:=Gt Hv Ba hL hM hlen
 clear g1 b1 hU h Hv Ba hL hM hlen Cw hnl
 go_enter Tryz.func36,Tryz.ntmps36
 go_wp2_with fail
 have e4:w.alloc (.cells #[.int .i64 0,.string (bs nm),.slice A M c,.slice A2 L c2,.slice none 0 0] 42)=w1:=AQ
 try rw [e4]
 clear e4 AQ
 refine HR.out.mono ?_
 rintro e w2 ⟨rfl,k2⟩
 have b2:=H0.out.2.1.grew k2
 obtain⟨B,hB⟩:=zn (w2.heap.size)
 obtain⟨w3,Dj⟩:=zn ((w2.alloc (.cells #[Pg ⟨#[111,107]⟩] 9)).alloc (.cells #[.slice (some ⟨B,0,none⟩) 1 1] 40))
 have g3:Ac w2 w3:=by rw[<- Dj];exact(Ha _ _ _).alloc _
 have S0:PD (On w2 B (B+1) [[111,107]] w3):=by
  refine⟨⟨.slice (some ⟨B,0,none⟩) 1 1,?_,?_⟩,Ac.kept g3⟩
  ·rw[<- Dj];have:=zv (w2.alloc (.cells #[Pg ⟨#[111,107]⟩] 9)) 40 #[.slice (some ⟨w2.heap.size,0,none⟩) 1 1];simpa [hB] using this
  ·refine⟨rfl,.inr ⟨B,1,#[Pg ⟨#[111,107]⟩],rfl,zl _,?_,zl _,by unfold maxLen;omega,rfl,rfl⟩⟩;rw[<- Dj,<-hB];exact(zv w2 9 #[Pg ⟨#[111,107]⟩]).alloc _
 have b3:=b2.grew g3
 have y0:=b2.cell 0
 have y1:=b3.cell 1
 simp at y0 y1
 have H2:=DS (H0.out.1.trans k2) b2 (H0.out.2.2.1.grew k2) (H0.out.2.2.2.grew k2)
 obtain⟨w4,D6⟩:=zn (w3.alloc (.cells #[str nm] 9))
 have HPut:=zh (pP S0.out nm (PH _) (by simp) (by omega) w4 (by rw[<- D6];exact Ha _ _ _) w3.heap.size (by rw[<- D6];exact zv _ _ _))
 clear HR b2 b3 g3 k2 H0 x0 x1 x2 x3 x4
 go_wp2_with fail
 have e3:(w2.alloc (.cells #[.string ⟨#[111,107]⟩] 9)).alloc (.cells #[.slice (some ⟨B,0,none⟩) 1 1] 40)=w3:=Dj
 try rw [e3]
 have e4:w3.alloc (.cells #[.string (bs nm)] 9)=w4:=D6
 try rw [e4]
 have e6:w3.heap.size=B+2:=by rw[<- Dj,<-hB];simp
 clear e3 e4 Dj D6 e6
 refine HPut.out.mono ?_
 rintro e w5 ⟨rfl,S1⟩
 have hwB:w.heap.size<B:=by rw[<- hB];exact H2.out.2.1.lt
 have b5:=H2.out.2.1.kept S1.kept (show ¬ B<=w.heap.size by omega)
 have z2:=b5.cell 2
 simp at z2
 have HB:=BP hwB hB
 have S1:PD (On w2 B (B+1) ([[111,107],nm]++(nums.map dec).take 0) w5):=zh (by simpa using S1)
 clear HPut b5 hwB S0 y0 y1 hB
 go_wp2_with fail
 go_loopw [6,31] (λ u6 i wr=>∃ k:Nat,k<=M/\i=.int .i64 k/\PD (On w2 B (B+1) ([[111,107],nm]++(nums.map dec).take k) wr)) (λ _ i _=>M-(intOf i).toNat)
 case atStart=>exact⟨0,by omega,rfl,S1⟩
 case round =>
  clear S1 z2;obtain⟨k,hk,rfl,hS⟩:=hrel;by_cases AH:k<M
  ·as_aux_lemma =>
   have k0:(0:Int)<=(k:Int):=(by omega);have k1:(k:Int)<(M:Int):=(by omega);obtain⟨x,hx⟩:=zx (l:=nums) (i:=k) (by rw[HP.out.2.2.2.1];exact AH);obtain⟨b,off,hA,hb,hc⟩:=(H2.out.2.2.1.keptB hS.out.kept (by rw[HB.out.2];exact zl _)) k (x:Int) (by rw[Pj,hx];rfl);subst hA;have HN:=zh (λ W=>FO x (HP.out.1 x (zm hx)) W);have HT:PD ((nums.map dec).take (k+1)=(nums.map dec).take k++[dec x]):=zh (by rw[Pt,Pj,hx];rfl);have HPu:=zh (pP hS.out (dec x) (PH _) (by simp;omega) (by rw[HB.out.2];exact zl _) (wr.alloc (.cells #[str (dec x)] 9)) (Ha _ _ _) wr.heap.size (zv _ _ _));clear hx hb;go_wp2_with fail;refine(HN.out _).mono ?_;rintro e w9 ⟨rfl,rfl⟩;clear HN;go_wp2_with fail;refine HPu.out.mono ?_;rintro e w9 ⟨rfl,S2⟩;have S3:PD (On w2 B (B+1) ([[111,107],nm]++(nums.map dec).take (k+1)) w9):=zh (by rw[HT.out,<-Px];exact S2);clear HPu S2;go_wp2_with fail;go_roundw
   case rel=>exact⟨k+1,by omega,by go_num,S3⟩
   case measure=>simp[intOf];omega
  ·obtain rfl:k=M:=(by omega);have S2:PD (On w2 B (B+1) (([[111,107],nm]++nums.map dec)++(rs.map B7).take 0) wr):=zh (by
    have:=hS.out
    rw[Pp (by rw[Pq,HP.out.2.2.2.1];exact zl _)]at this
    simpa using this)
   have b5:=H2.out.2.1.kept hS.out.kept (show ¬ B<=w.heap.size by have:=HB.out.1;omega);have z3:=b5.cell 3;simp at z3;clear hS b5;go_wp2_with fail;go_loopw [8,44] (λ u8 i wr=>∃ j:Nat,j<=L/\i=.int .i64 j/\PD (On w2 B (B+1) (([[111,107],nm]++nums.map dec)++(rs.map B7).take j) wr)) (λ _ i _=>L-(intOf i).toNat)
   case atStart=>exact⟨0,by omega,rfl,S2⟩
   case round =>
    clear S2 z3;obtain⟨j,hj,rfl,hS⟩:=hrel;by_cases AH:j<L
    ·as_aux_lemma =>
     have k0:(0:Int)<=(j:Int):=(by omega);have k1:(j:Int)<(L:Int):=(by omega);obtain⟨r,hr⟩:=zx (l:=rs) (i:=j) (by rw[HP.out.2.2.1];exact AH);obtain⟨b,off,Ae,ce,hA,hb,c0,c1,AY,_⟩:=(H2.out.2.2.2.kept hS.out.kept (by rw[HB.out.2];exact zl _)) j r hr;subst hA;obtain⟨q1,q2,q3⟩:=HP.out.2.1 r (zm hr);obtain⟨ed,wt⟩:=r;have HT:PD ((rs.map B7).take (j+1)=(rs.map B7).take j++[B7 (ed,wt)]):=zh (by rw[Pt,Pj,hr];rfl);obtain⟨w6,lX,g6,b6⟩:=zb wr #[.slice Ae ed.length ce,u64 wt] 133 rfl;have HR:=zh (MH Ae ce wt ed w6 (RowI.grew AY g6) q1 q2 q3);obtain⟨L2,nS⟩:=zn (ed.length);dsimp only at c0 c1;rw[nS]at lX b6 HR c0;have x0:=b6.cell 0;have x1:=b6.cell 1;simp at x0 x1;have HPu:=zh (λ (w7:Pa) (k7:Ac w6 w7)=>pP hS.out (B7 (ed,wt)) (PH _) (by simp;have:=HP.out.2.2.2.1;omega) (by rw[HB.out.2];exact zl _) (w7.alloc (.cells #[str (B7 (ed,wt))] 9)) ((g6.trans k7).trans (Ha _ _ _)) w7.heap.size (zv _ _ _));obtain⟨t,ht⟩:=zn (B7 (ed,wt));rw[ht]at HR HPu HT;clear hr hb AY q1 q2 q3 nS ht g6 b6;go_wp2_with fail;refine HR.out.mono ?_;rintro e w7 ⟨rfl,k7⟩;have HPv:=zh (HPu.out w7 k7);clear HR k7 HPu;go_wp2_with fail;refine HPv.out.mono ?_;rintro e w9 ⟨rfl,S2⟩;have S3:PD (On w2 B (B+1) (([[111,107],nm]++nums.map dec)++(rs.map B7).take (j+1)) w9):=zh (by rw[HT.out,<-Px];exact S2);clear HPv S2;go_wp2_with fail;go_roundw
     case rel=>exact⟨j+1,by omega,by go_num,S3⟩
     case measure=>simp[intOf];omega
    ·as_aux_lemma =>
     obtain rfl:j=L:=(by omega);have S2:PD (On w2 B (B+1) (Bz nm nums rs) wr):=zh (by
      have:=hS.out;rw[Pp (by rw[Pq,HP.out.2.2.1];exact zl _)]at this;exact this)
     have b5:=H2.out.2.1.kept hS.out.kept (show ¬ B<=w.heap.size by have:=HB.out.1;omega);have z4:=b5.cell 4;simp at z4;clear hS b5;go_wp2_with fail;go_loopw [10,57] (λ qt i wr=>i=.int .i64 0/\PD (On w2 B (B+1) (Bz nm nums rs) wr)) (λ _ i _=>0)
     case atStart=>exact⟨rfl,S2⟩
     case round =>
      clear S2 z4;obtain⟨rfl,hS⟩:=hrel;obtain⟨v,Gk,GO⟩:=hS.out.line;obtain⟨A3,c3,hv,AY⟩:=GO.row;have Bg:=ky GO hv;have vS:(Bz nm nums rs).length<=100000:=by
       unfold Bz;simp only[Ps,Pq,PA,List.length_nil];have h1:=HP.out.2.2.1;have h2:=HP.out.2.2.2.1;omega
      have HJ:Pb A_ 71 #[.slice A3 (Bz nm nums rs).length c3,.string ⟨#[32]⟩] wr λ e w'=>e=.returned (.string (bs (At (Bz nm nums rs))))/\Ac wr w':=by
       rw[<- Mz];exact ae A3 c3 (Bz nm nums rs) [32] wr AY Bg vS (by rw[Mz];have:=HP.out.2.2.2.2;omega)
      obtain⟨n3,hn3⟩:=zn ((Bz nm nums rs).length);rw[hn3]at HJ hv;subst hv;have HJ:=zh HJ;have y3:=Gk.cell 0;simp at y3;have HG:PD (Ac w wr):=zh (H2.out.1.trans (hS.out.kept.old (by rw[HB.out.2];exact zl _)));clear Gk GO AY Bg vS hn3 hS;go_wp2_with fail;refine HJ.out.mono ?_;rintro e w8 ⟨rfl,k8⟩;have HF:=zh (HG.out.trans k8);clear HJ k8;go_wp2_with fail;go_ret;exact⟨rfl,HF.out⟩
end Go.Proofs.YtepelooebggliaaGreatDoor
