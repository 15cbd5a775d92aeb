/- Walks of functions that the law reaches, and plain laws, part 3 of 21: lemmas for the proof in the last text; no condition. Shortened by program. -/
import Derived.ScopeJumps
import Derived.WalkMore
import Derived.WalkKit
import Derived.Test.YtepelooebggliaaGreatDoorProg
import Derived.Deep.QuietTactic
import Derived.BigQuiet
import Derived.Outline
import Derived.Lib.ConvBytes
import Derived.Laws.IdiomStrings
import Derived.Lib.Mul64
import Derived.Laws.Bits64b
import Derived.Laws.Externs
import Derived.IntWalk
import Derived.Great.BuildSlice
import Derived.RegionTactic
import Derived.Deep.DeepCutAuto
import Derived.LoopTactic
import Derived.Deep.AppendLies
import Derived.Test.YtepelooebggliaaGreatDoorSu0
open Go.Proofs.Tryz renaming prog->A_,underlying40->B_,underlying9->C_,ntmps458->D_,ntmps420->E_,ntmps445->F_,ntmps397->G_,func458->H_,func420->I_,func445->J_,func397->K_,ntmps86->L_,func86->M_,underlying97->N_,underlying5->O_
open Go renaming World->Pa,Value->Pb,Calls->Pc,Addr->Pd
open Go.World renaming cell?->Pe,size_alloc->Pf,news_of_block->Pg,ownsRow_nil->Ph
open Go.Instr renaming index->Pj
open Array renaming getElem?_setIfInBounds_ne->Pk,getElem?_setIfInBounds_self->Pm
open List renaming length_append->Pn,take_add_one->Po,getElem?_append_right->Pp,getElem?_eq_some_iff->Pq,length_take->Pr,map_append->Ps,take_of_length_le->Pt,getD_eq_getElem?_getD->Pu,getElem?_append_left->Pv,take_append_drop->Pw,length_pos_iff->Px,mem_singleton->Py
open UInt8 renaming ofNat->Pz
open Nat renaming strongRecOn->PA
open Go.IntWalk renaming i64_in->PB,u64_in->PC
open Go.RowKit renaming Hid->PD
open Go.IntKind renaming u64->PE,i64->PF,wrap_u64->PG
open Int renaming lt_or_le->PH,toNat_natCast->PI,eq_ofNat_of_zero_le->PJ
open Go.Lib renaming half_mul_le->PK,bytesWorld_size->PL
open Go.Value renaming slice->PM,oneCell'->PN
open Option renaming isSome_some->PO,getD_some->PQ
set_option maxHeartbeats 16000000
set_option maxRecDepth 100000
set_option linter.unusedVariables false
set_option linter.unusedSimpArgs false
namespace Go.Proofs.YtepelooebggliaaGreatDoor
def Cs (J:Nat->Act->Pa->Prop) (Q:Exit->Act->Pa->Prop):Exit->Act->Pa->Prop
 | .goto l,a,w=>J l a w
 | e,a,w=>Q e a w
section
variable {P:Program} {a:Act} {w:Pa} {Q:Exit->Act->Pa->Prop} {J:Nat->Act->Pa->Prop}
@[go_sem] theorem jumpsTo_goto (l:Nat):Cs J Q (.goto l) a w=J l a w:=rfl
@[go_sem] theorem jumpsTo_normal:Cs J Q .normal a w=Q .normal a w:=rfl
@[go_sem] theorem jumpsTo_exit (id:Nat):Cs J Q (.exit id) a w=Q (.exit id) a w:=rfl
@[go_sem] theorem jumpsTo_ret:Cs J Q .ret a w=Q .ret a w:=rfl
@[go_sem] theorem jumpsTo_panic (ch:List PanicEntry):Cs J Q (.panic ch) a w=Q (.panic ch) a w:=rfl
theorem Jw {c:Code} (J:Nat->Act->Pa->Prop) (μ:Nat->Act->Pa->Nat)
  (first:c.wp P (Cs J Q) a w)
  (pass:∀ l a w,J l a w->∃ rest,findLabel c l=some rest/\rest.wp P (Cs (λ l' a' w'=>J l' a' w'/\μ l' a' w' < μ l a w) Q) a w):(Code.scope c).wp P Q a w:=by
 intro b k cs
 have key:∀ n l a w,μ l a w=n->J l a w->∃ rest,findLabel c l=some rest/\∃ e a' w',Q e a' w'/\Arrives P (lone (b.at a (.code rest::.inScope c::k)) cs w) b k cs e a' w':=by
  intro n;induction n using PA with
  | _ n ih =>
   intro l a w hn hJ;obtain⟨rest,hr,hp⟩:=pass l a w hJ;refine⟨rest,hr,?_⟩;obtain⟨e,a₁,w₁,hq,Dn⟩:=hp b (.inScope c::k) cs;cases e with
   | normal=>exact⟨.normal,a₁,w₁,hq,Steps.trans Dn (.one step_inScope)⟩
   | exit id=>exact⟨.exit id,a₁,w₁,hq,λ k' hk=>Dn k' (by simp[exitTo,hk])⟩
   | goto l' =>
    obtain⟨hJ',AH⟩:=hq;obtain⟨pX,oV,e₂,a₂,w₂,zi,Kg⟩:=ih _ (by omega) l' a₁ w₁ rfl hJ';exact⟨e₂,a₂,w₂,zi,.of_steps (Dn _ (by simp[gotoIn,oV])) Kg⟩
   | ret=>exact⟨_,a₁,w₁,hq,Dn⟩
   | panic ch=>exact⟨_,a₁,w₁,hq,Dn⟩
   | outgrown=>exact⟨_,a₁,w₁,hq,Dn⟩
 obtain⟨e,a₁,w₁,hq,Dn⟩:=first b (.inScope c::k) cs
 cases e with
 | normal=>exact⟨.normal,a₁,w₁,hq,.head step_scope (Steps.trans Dn (.one step_inScope))⟩
 | exit id=>exact⟨.exit id,a₁,w₁,hq,λ k' hk=>.head step_scope (Dn k' (by simp[exitTo,hk]))⟩
 | goto l' =>
  obtain⟨pX,oV,e₂,a₂,w₂,zi,Kg⟩:=key _ l' a₁ w₁ rfl hq;exact⟨e₂,a₂,w₂,zi,.of_steps (.head step_scope (Dn _ (by simp[gotoIn,oV]))) Kg⟩
 | ret=>exact⟨_,a₁,w₁,hq,.of_steps (.one step_scope) Dn⟩
 | panic ch=>exact⟨_,a₁,w₁,hq,.of_steps (.one step_scope) Dn⟩
 | outgrown=>exact⟨_,a₁,w₁,hq,.of_steps (.one step_scope) Dn⟩
end
end Go.Proofs.YtepelooebggliaaGreatDoor
namespace Go.Proofs.YtepelooebggliaaGreatDoor.Sm
open Go.RowKit
abbrev pt (D:Nat):Pb:=.pointer (some ⟨D,0,none⟩)
abbrev u64 (x:Int):Pb:=.int .u64 x
abbrev i64 (x:Int):Pb:=.int .i64 x
abbrev Have:=Int->Option Int
structure Place (cs:Array Pb) (now:Int) (i:Nat) (o:Option Int) (v t:Int):Prop where
 cv:cs[i*2]? = some (u64 v)
 ct:cs[i*2+1]? = some (u64 t)
 t0:0<=t
 t1:t<=now
 yes:t=now->o=some v
 no:t≠now->o=none
structure Stamp (w:Pa) (R C n:Nat) (h:Have) (now many:Int):Prop where
 ne:R≠C
 row:Am w R 453 #[.slice (some ⟨C,0,none⟩) n n,u64 now,i64 many]
 cells:∃ cs:Array Pb,Am w C 550 cs/\cs.size=n*2/\∀ i,i<n->∃ v t,Place cs now i (h i) v t
 small:n<=65536
 now1:1<=now
 now2:now<=1000000
 many0:0<=many
 many1:many<=1000000
 out:∀ i:Int,i<0\/n<=i->h i=none
theorem Stamp.kept {F:Nat->Prop} {w w':Pa} {R C n:Nat} {h:Have} {now many:Int} (s:Stamp w R C n h now many) (k:Kept F w w') (hR:¬ F R) (hC:¬ F C):Stamp w' R C n h now many:=by
 obtain⟨cs,hb,hs⟩:=s.cells;exact⟨s.ne,s.row.kept k hR,⟨cs,hb.kept k hC,hs⟩,s.small,s.now1,s.now2,s.many0,s.many1,s.out⟩
abbrev Two (R C:Nat):Nat->Prop:=λ k=>k=R\/k=C
def inn (n:Nat) (i:Int):Bool:=decide (0<=i/\i<n)
def upd (h:Have) (i v:Int):Have:=λ j=>if j=i then some v else h j
theorem len_any (w:Pa) (R C n:Nat) (h:Have) (now many:Int) (s:Stamp w R C n h now many) :
  Pc A_ 475 #[pt R] w λ e w'=>e=.returned (i64 n)/\w=w':=by
 have hc:w.cell? ⟨R,0,none⟩=some (.slice (some ⟨C,0,none⟩) n n):=s.row.cell 0
 go_enter Tryz.func475,Tryz.ntmps475
 go_wp2
 go_ret
 exact⟨rfl,rfl⟩
theorem mV (w:Pa) (R C n:Nat) (h:Have) (now many i:Int) (s:Stamp w R C n h now many) (hi:i<0\/n<=i) :
  Pc A_ 458 #[pt R,i64 i] w λ e w'=>e=.returned (.pointer none)/\Ac w w':=by
 have hL:=zh (len_any w R C n h now many s)
 rcases PH i 0 with h0 | h0
 ·go_enter H_,D_;go_wp2_with fail;go_ret;exact⟨rfl,zr _ _⟩
 ·have hn:n<=i:=(by omega);clear hi;go_enter H_,D_;go_wp2_with fail;refine hL.out.mono ?_;rintro e w1 ⟨rfl,rfl⟩;go_wp2_with fail;go_ret;exact⟨rfl,zr _ _⟩
theorem vk (w:Pa) (R C n:Nat) (h:Have) (now many:Int) (i:Nat) (s:Stamp w R C n h now many) (hi:i<n) :
  Pc A_ 458 #[pt R,i64 i] w λ e w'=>e=.returned (.pointer (some ⟨C,i*2,none⟩))/\w=w':=by
 have hL:=zh (len_any w R C n h now many s)
 have hc:w.cell? ⟨R,0,none⟩=some (.slice (some ⟨C,0,none⟩) n n):=s.row.cell 0
 have hs:=s.small
 go_enter H_,D_
 go_wp2_with fail
 refine hL.out.mono ?_
 rintro e w1 ⟨rfl,rfl⟩
 go_wp2_with fail
 go_ret
 exact⟨rfl,rfl⟩
def getE (o:Option Int):Ending:=.returned (.tuple #[u64 (o.getD 0),.bool o.isSome])
theorem td (w:Pa) (R C n:Nat) (h:Have) (now many i:Int) (s:Stamp w R C n h now many) (hi:i<0\/n<=i) :
  Pc A_ 420 #[pt R,i64 i] w λ e w'=>e=getE none/\Ac w w':=by
 have hL:=zh (mV w R C n h now many i s hi)
 clear hi
 go_enter I_,E_
 go_wp2_with fail
 refine hL.out.mono ?_
 rintro e w1 ⟨rfl,hK⟩
 go_wp2_with fail
 go_quiet (fail)
 go_wp2
 go_ret2
 exact⟨rfl,hK.drewN _⟩
theorem yd (w:Pa) (R C n:Nat) (h:Have) (now many:Int) (i:Nat) (s:Stamp w R C n h now many) (hi:i<n) :
  Pc A_ 420 #[pt R,i64 i] w λ e w'=>e=getE (h i)/\Ac w w':=by
 have hL:=zh (vk w R C n h now many i s hi)
 have Mr:w.cell? ⟨R,1,none⟩=some (u64 now):=s.row.cell 1
 obtain⟨cs,hB,_,Hz⟩:=s.cells
 obtain⟨v,t,pl⟩:=Hz i hi
 have Jp:w.cell? ⟨C,i*2,none⟩=some (u64 v):=(hB.cell _).trans pl.cv
 have hc3:w.cell? ⟨C,i*2+1,none⟩=some (u64 t):=(hB.cell _).trans pl.ct
 by_cases ht:t=now
 ·subst ht;have hh:=zh (pl.yes rfl);go_enter I_,E_;go_wp2_with fail;refine hL.out.mono ?_;rintro e w1 ⟨rfl,rfl⟩;go_wp2_with fail;go_quiet (fail);go_wp2;go_ret2;rw[hh.out];exact⟨rfl,(zr _ _).drewN _⟩
 ·have hh:=zh (pl.no ht);have ht2:(t==now)=false:=(by simpa using ht);go_enter I_,E_;go_wp2_with fail;refine hL.out.mono ?_;rintro e w1 ⟨rfl,rfl⟩;go_wp2_with fail;go_quiet (fail);go_wp2;go_ret2;rw[hh.out];exact⟨rfl,(zr _ _).drewN _⟩
theorem get_any (w:Pa) (R C n:Nat) (h:Have) (now many i:Int) (s:Stamp w R C n h now many) :
  Pc A_ 420 #[pt R,i64 i] w λ e w'=>e=getE (h i)/\Ac w w':=by
 by_cases hi:i<0\/n<=i
 ·rw[s.out i hi];exact td w R C n h now many i s hi
 ·obtain⟨k,rfl⟩:=PJ (show 0<=i by omega);exact yd w R C n h now many k s (by omega)
def manyP (o:Option Int) (many:Int):Int:=if o=none then many+1 else many
theorem Stamp.put {w w1:Pa} {R C n:Nat} {h:Have} {now many Bn v:Int} {i:Nat} (s:Stamp w R C n h now many) (hi:i<n) (hm:Bn=manyP (h i) many) (ON:many<1000000)
  (hR:Am w1 R 453 #[.slice (some ⟨C,0,none⟩) n n,u64 now,i64 Bn]) (hC:∀ cs,Am w C 550 cs->Am w1 C 550 cs) :
  Stamp ((w1.setCell ⟨C,i*2,none⟩ (u64 v)).setCell ⟨C,i*2+1,none⟩ (u64 now)) R C n (upd h i v) now Bn:=by
 obtain⟨cs,hB,Df,Hz⟩:=s.cells
 have hb:=s.many0
 refine⟨s.ne,(hR.far (p:=⟨C,i*2,none⟩) s.ne _).far (p:=⟨C,i*2+1,none⟩) s.ne _,⟨_,((hC cs hB).set (i*2) _).set (i*2+1) _,by simpa using Df,λ j hj=>?_⟩,s.small,s.now1,s.now2,?_,?_,?_⟩
 ·by_cases hji:j=i
  ·subst hji;have:=s.now1;refine⟨v,now,?_,?_,by omega,by omega,λ _=>by simp[upd],λ e=>absurd rfl e⟩
   ·rw[Pk (by omega),Pm];simp;omega
   ·rw[Pm];simp;omega
  ·obtain⟨v',t',pl⟩:=Hz j hj;have Bm:¬ (j:Int)=(i:Int):=(by omega);refine⟨v',t',?_,?_,pl.t0,pl.t1,λ e=>by simp only[upd,if_neg Bm];exact pl.yes e,λ e=>by simp only[upd,if_neg Bm];exact pl.no e⟩
   ·rw[Pk (by omega),Pk (by omega)];exact pl.cv
   ·rw[Pk (by omega),Pk (by omega)];exact pl.ct
 ·rw[hm];unfold manyP;split<;>omega
 ·rw[hm];unfold manyP;split
  ·omega
  ·exact s.many1
 ·intro j hj;have Bm:¬ j=(i:Int):=(by omega);simp only[upd,if_neg Bm];exact s.out j hj
theorem uE (w:Pa) (R C n:Nat) (h:Have) (now many i v:Int) (s:Stamp w R C n h now many) (hi:i<0\/n<=i) :
  Pc A_ 445 #[pt R,i64 i,u64 v] w λ e w'=>e=.returned (.bool false)/\Ac w w':=by
 have hL:=zh (mV w R C n h now many i s hi)
 clear hi
 go_enter J_,F_
 go_wp2_with fail
 refine hL.out.mono ?_
 rintro e w1 ⟨rfl,hK⟩
 go_wp2_with fail
 go_ret
 exact⟨rfl,hK⟩
theorem zAa (w:Pa) (R C n:Nat) (h:Have) (now many v:Int) (i:Nat) (s:Stamp w R C n h now many) (hi:i<n) (ON:many<1000000) :
  Pc A_ 445 #[pt R,i64 i,u64 v] w λ e w'=>e=.returned (.bool true)/\Stamp w' R C n (upd h i v) now (manyP (h i) many)/\Kept (Two R C) w w':=by
 have hL:=zh (vk w R C n h now many i s hi)
 have Mr:w.cell? ⟨R,1,none⟩=some (u64 now):=s.row.cell 1
 have tq:w.cell? ⟨R,2,none⟩=some (i64 many):=s.row.cell 2
 have hfm:=s.row.frozen 2
 obtain⟨cs,hB,_,Hz⟩:=s.cells
 obtain⟨v0,t,pl⟩:=Hz i hi
 have Jp:w.cell? ⟨C,i*2,none⟩=some (u64 v0):=(hB.cell _).trans pl.cv
 have hc3:w.cell? ⟨C,i*2+1,none⟩=some (u64 t):=(hB.cell _).trans pl.ct
 have hf2:=hB.frozen (i*2)
 have hf3:=hB.frozen (i*2+1)
 have Bm:=s.ne
 have jE:=s.many0
 by_cases ht:t=now
 ·subst ht;have hh:=zh (pl.yes rfl);have hm:PD (many=manyP (h i) many):=by
   show many=manyP (h i) many
   rw[hh.out];rfl
  go_enter J_,F_;go_wp2_with fail;refine hL.out.mono ?_;rintro e w1 ⟨rfl,rfl⟩;go_wp2_with fail;go_quiet (fail);go_wp2;go_ret;rw[<- hm.out];refine⟨rfl,s.put hi hm.out ON s.row (λ _ h=>h),?_⟩;exact(((zr (Two R C) w).drewN nq).setCell (p:=⟨C,i*2,none⟩) (.inl (.inr rfl)) _).setCell (p:=⟨C,i*2+1,none⟩) (.inl (.inr rfl)) _
 ·have hh:=zh (pl.no ht);have ht2:(t==now)=false:=(by simpa using ht);go_enter J_,F_;go_wp2_with fail;refine hL.out.mono ?_;rintro e w1 ⟨rfl,rfl⟩;go_wp2_with fail;go_quiet (fail);go_wp2;go_ret;have hm:many+1=manyP (h i) many:=by rw[hh.out];rfl
  refine⟨rfl,?_,?_⟩
  ·rw[<- hm];exact s.put hi hm ON ((show Am (w.drewN nq) R _ _ from s.row).set 2 (i64 (many+1))) (λ _ h=>(show Am (w.drewN nq) C _ _ from h).far (p:=⟨R,2,none⟩) (Ne.symm Bm) _)
  ·exact((((zr (Two R C) w).drewN nq).setCell (p:=⟨R,2,none⟩) (.inl (.inl rfl)) _).setCell (p:=⟨C,i*2,none⟩) (.inl (.inr rfl)) _).setCell (p:=⟨C,i*2+1,none⟩) (.inl (.inr rfl)) _
def putH (n:Nat) (h:Have) (i v:Int):Have:=if inn n i then upd h i v else h
def putM (n:Nat) (h:Have) (i many:Int):Int:=if inn n i then manyP (h i) many else many
theorem put_any (w:Pa) (R C n:Nat) (h:Have) (now many i v:Int) (s:Stamp w R C n h now many) (ON:many<1000000) :
  Pc A_ 445 #[pt R,i64 i,u64 v] w λ e w'=>e=.returned (.bool (inn n i))/\Stamp w' R C n (putH n h i v) now (putM n h i many)/\Kept (Two R C) w w':=by
 by_cases hi:i<0\/n<=i
 ·have e:inn n i=false:=by simp[inn];omega
  simp only[putH,putM,e,Bool.false_eq_true,if_false];refine(uE w R C n h now many i v s hi).mono λ e w' ⟨he,hK⟩=>⟨he,s.kept hK (λ h=>h) (λ h=>h),hK.kept⟩
 ·obtain⟨k,rfl⟩:=PJ (show 0<=i by omega);have e:inn n k=true:=by simp[inn];omega
  simp only[putH,putM,e,if_true];exact zAa w R C n h now many v k s (by omega) ON
def leastB (n:Nat) (h:Have) (i v:Int):Bool:=inn n i&&!(match h i with | some x=>decide (x<=v) | none=>false)
def leastH (n:Nat) (h:Have) (i v:Int):Have:=if leastB n h i v then upd h i v else h
def leastM (n:Nat) (h:Have) (i v many:Int):Int:=if leastB n h i v then manyP (h i) many else many
theorem least_any (w:Pa) (R C n:Nat) (h:Have) (now many i v:Int) (s:Stamp w R C n h now many) (ON:many<1000000) :
  Pc A_ 397 #[pt R,i64 i,u64 v] w λ e w'=>e=.returned (.bool (leastB n h i v))/\Stamp w' R C n (leastH n h i v) now (leastM n h i v many)/\Kept (Two R C) w w':=by
 have hG:=zh (get_any w R C n h now many i s)
 cases ho:h i with
 | none =>
  rw[ho]at hG;have hb:leastB n h i v=inn n i:=(by simp[leastB,ho]);have hP:=zh (λ W (k:Ac w W)=>put_any W R C n h now many i v (s.kept k (λ h=>h) (λ h=>h)) ON);have hh:leastH n h i v=putH n h i v:=(by simp[leastH,putH,hb]);have hm:leastM n h i v many=putM n h i many:=(by simp[leastM,putM,hb]);rw[hb,hh,hm];clear hb hh hm ho;go_enter K_,G_;go_wp2_with fail;refine hG.out.mono ?_;rintro e w1 ⟨he,hK⟩;simp only[getE,Option.getD_none,Option.isSome_none]at he;subst he;go_wp2_with fail;refine(hP.out _ hK).mono ?_;rintro e w2 ⟨rfl,F9,fD⟩;go_wp2_with fail;go_ret;exact⟨rfl,F9,hK.kept.trans fD⟩
 | some x =>
  rw[ho]at hG;have BF:inn n i=true:=by
   by_cases hi:i<0\/n<=i
   ·rw[s.out i hi]at ho;cases ho
   ·simp[inn];omega
  rcases PH v x with AH | hle
  ·have hb:leastB n h i v=inn n i:=by simp[leastB,ho];intro _;omega
   have hP:=zh (λ W (k:Ac w W)=>put_any W R C n h now many i v (s.kept k (λ h=>h) (λ h=>h)) ON);have hh:leastH n h i v=putH n h i v:=(by simp[leastH,putH,hb]);have hm:leastM n h i v many=putM n h i many:=(by simp[leastM,putM,hb]);rw[hb,hh,hm];clear hb hh hm ho BF;go_enter K_,G_;go_wp2_with fail;refine hG.out.mono ?_;rintro e w1 ⟨he,hK⟩;simp only[getE,PQ,PO]at he;subst he;go_wp2_with fail;refine(hP.out _ hK).mono ?_;rintro e w2 ⟨rfl,F9,fD⟩;go_wp2_with fail;go_ret;exact⟨rfl,F9,hK.kept.trans fD⟩
  ·have hb:leastB n h i v=false:=(by simp[leastB,ho,hle]);simp only[leastH,leastM,hb,Bool.false_eq_true,if_false];clear hb ho BF;go_enter K_,G_;go_wp2_with fail;refine hG.out.mono ?_;rintro e w1 ⟨he,hK⟩;simp only[getE,PQ,PO]at he;subst he;go_wp2_with fail;go_ret;exact⟨rfl,s.kept hK (λ h=>h) (λ h=>h),hK.kept⟩
theorem jN:(A_.info? 550).map (λ i=>(i.zero,i.size,i.bytes))=some (some (.agg #[u64 0,u64 0]),2,16):=by kernel_rfl
theorem new_yes (n:Nat) (w:Pa) (hn:n<=65536):Pc A_ 274 #[i64 n] w λ e w'=>∃ R C,e=.returned (pt R)/\w.heap.size<=R/\w.heap.size<=C/\Stamp w' R C n (λ _=>none) 1 0/\Ac w w':=by
 obtain⟨i0,hi,Cu,BV,Cj⟩:=info_parts jN;have Hu:=run_make (P:=A_) w 451 550 i0 _ Tryz.underlying451 hi Cu .i64 .i64 (n:Int) (n:Int) (by omega) (Int.le_refl _) (by rw[Cj];omega) (by omega);rw[PI,BV]at Hu;go_enter Tryz.func274,Tryz.ntmps274;go_wp2;go_ret;refine⟨_,w.heap.size,rfl,?_,zl _,?_,((zr _ _).alloc _).alloc _⟩
 ·simp
 ·refine⟨by simp,?_,⟨_,(zv w _ _).alloc _,by rw[size_madeCells],λ i hi=>?_⟩,hn,by omega,by omega,by omega,by omega,λ _ _=>rfl⟩
  ·have hb:=zv (w.alloc (.cells (madeCells #[u64 0,u64 0] (n*2)) 550)) 453 #[.slice (some ⟨w.heap.size,0,none⟩) n n,u64 1,i64 0];rw[Pf]at hb;exact hb
  ·refine⟨0,0,?_,?_,by omega,by omega,λ e=>by omega,λ _=>rfl⟩
   ·simp[madeCells,Value.cells,show i*2<n*2 by omega,show i*2%2=0 by omega]
   ·simp[madeCells,Value.cells,show i*2+1<n*2 by omega,show (i*2+1)%2=1 by omega]
end Go.Proofs.YtepelooebggliaaGreatDoor.Sm
namespace Go.Proofs.YtepelooebggliaaGreatDoor
def dec (n:Nat):List UInt8:=if n<10 then [Pz (48+n)] else dec (n/10)++[Pz (48+n%10)]
termination_by n
decreasing_by omega
def Fu (l:List UInt8):Nat:=l.foldl (λ a c=>a*10+(c.toNat-48)) 0
theorem I0 (l:List UInt8) (c:UInt8):Fu (l++[c])=Fu l*10+(c.toNat-48):=by simp[Fu,List.foldl_append]
theorem Dm {d:Nat} (h:d<10):(Pz (48+d)).toNat=48+d:=by
 rw[UInt8.toNat_ofNat'];omega
theorem dec_lt {n:Nat} (h:n<10):dec n=[Pz (48+n)]:=by rw[dec,if_pos h]
theorem IB {n:Nat} (h:¬ n<10):dec n=dec (n/10)++[Pz (48+n%10)]:=by rw[dec,if_neg h]
theorem rl (n:Nat):Fu (dec n)=n:=by
 induction n using PA with
 | _ n ih =>
  by_cases h:n<10
  ·rw[dec_lt h,show Fu [Pz (48+n)]=0*10+((Pz (48+n)).toNat-48) from rfl,Dm h];omega
  ·rw[IB h,I0,ih _ (by omega),Dm (by omega)];omega
theorem JE (n:Nat):∀ c∈dec n,48<=c.toNat/\c.toNat<=57:=by
 induction n using PA with
 | _ n ih =>
  by_cases h:n<10
  ·rw[dec_lt h];intro c hc;simp only[Py]at hc;subst hc;rw[Dm h];omega
  ·rw[IB h];intro c hc;rcases List.mem_append.1 hc with hc | hc
   ·exact ih _ (by omega) c hc
   ·simp only[Py]at hc;subst hc;rw[Dm (by omega)];omega
theorem de (n:Nat):dec n≠[]:=by
 by_cases h:n<10
 ·rw[dec_lt h];simp
 ·rw[IB h];simp
theorem ns {n:Nat} (h0:0<n):∃ c l,dec n=c::l/\c≠48:=by
 induction n using PA with
 | _ n ih =>
  by_cases h:n<10
  ·rw[dec_lt h];refine⟨_,[],rfl,λ e=>?_⟩;have:=congrArg UInt8.toNat e;rw[Dm h]at this;simp at this;omega
  ·obtain⟨c,l,hc,hn⟩:=ih (n/10) (by omega) (by omega);rw[IB h,hc];exact⟨c,_,rfl,hn⟩
theorem nt:dec 0=[48]:=dec_lt (by decide)
theorem Dz {k:Nat}:∀ {n:Nat},n<10 ^ (k+1)->(dec n).length<=k+1:=by
 induction k with
 | zero=>intro n h;rw[dec_lt (by simpa using h)];simp
 | succ k ih =>
  intro n h;by_cases h1:n<10
  ·rw[dec_lt h1];simp
  ·rw[IB h1,Pn];have:=@ih (n/10) (by rw[Nat.pow_succ]at h;omega);simp;omega
theorem NV (l:List UInt8) (k:Nat):Fu (l.take k)<=Fu l:=by
 induction k with
 | zero=>simp[Fu]
 | succ k _ =>
  have key:∀ (m:List UInt8) (l:List UInt8),Fu l<=Fu (l++m):=λ m=>by
   induction m with
   | nil=>intro l;simp
   | cons c m ih =>
    intro l;have h1:=ih (l++[c]);rw[I0]at h1;rw[show l++c::m=l++[c]++m by simp];omega
  have:=key (l.drop (k+1)) (l.take (k+1));rwa [Pw]at this
def sgn (c:UInt8):Bool:=decide (33<=c.toNat/\c.toNat<=126)
def Cp (w:List UInt8):Prop:=w≠[]/\∀ c∈w,sgn c=true
def C7 (ws:List (List UInt8)):List UInt8:=ws.flatMap λ w=>32::w
def At:List (List UInt8)->List UInt8
 | []=>[]
 | w::ws=>w++C7 ws
theorem Fh (w:List UInt8) (ws:List (List UInt8)):C7 (w::ws)=32::(w++C7 ws):=by simp[C7]
theorem Cf (n:Nat):Cp (dec n):=⟨de n,λ c hc=>by
 have:=JE n c hc;simp[sgn];omega⟩
theorem lx (ws:List (List UInt8)):(C7 ws).length=ws.length+(ws.map List.length).sum:=by
 induction ws with
 | nil=>rfl
 | cons w ws ih=>rw[Fh];simp[ih];omega
end Go.Proofs.YtepelooebggliaaGreatDoor
namespace Go.Proofs.YtepelooebggliaaGreatDoor
open Go.RowKit
def bs (l:List UInt8):ByteArray:=⟨l.toArray⟩
abbrev str (l:List UInt8):Pb:=.string (bs l)
theorem AT (l:List UInt8):(bs l).size=l.length:=by simp[bs,ByteArray.size]
theorem Al (l:List UInt8):(bs l).toList=l:=ByteArray.toList_mk l
theorem FW (l:List UInt8):(bs l).data.toList=l:=by simp[bs]
theorem EF (l:List UInt8) (i:Nat) {c:UInt8} (h:l[i]? = some c) (W:Pa):(Pj 9 (.string (bs l)) (.int .i64 (i:Int))).run A_ W=.ok (.int .u8 (c.toNat:Int)) W:=by
 have hi:=(Pq.1 h);obtain⟨hl,rfl⟩:=hi;rw[run_index_string W 9 (bs l) .i64 (i:Int) C_,dif_pos ⟨by omega,by rw[AT];omega⟩];rfl
theorem gT (l:List UInt8) (i j:Nat) (h1:i<=j) (h2:j<=l.length) (W:Pa):(Instr.slice 9 (.string (bs l)) (some (.int .i64 (i:Int))) (some (.int .i64 (j:Int))) none).run A_ W=.ok (str ((l.drop i).take (j-i))) W:=by
 rw[run_slice_string W 9 (bs l) .i64 .i64 (i:Int) (j:Int) C_ (by omega) (by omega) (by rw[AT];omega)];rw[PI,PI];unfold str bs;rw[ByteArray.extract_mk]
def sp (w w':Pa) (l:List UInt8):Prop:=Ac w w'/\w'.heap.size=w.heap.size+1/\(∃ cs fr,w'.heap[w.heap.size]? = some (.cells cs 5 fr))/\∀ (i:Nat) (c:UInt8),l[i]? = some c->w'.cell? ⟨w.heap.size,i,none⟩=some (.int .u8 (c.toNat:Int))
theorem IW (w:Pa) (l:List UInt8):∃ cap w',(convert 9 97 (.string (bs l))).run A_ w=.ok (.slice (some ⟨w.heap.size,0,none⟩) l.length cap) w'/\sp w w' l:=by
 have h:=Lib.run_convert_string_bytes (P:=A_) w 9 97 5 (bs l) C_ N_ O_;rw[AT]at h;refine⟨_,_,h,⟨rfl,?_,rfl,?_,λ k hk _=>Lib.bytesWorld_at_old w 5 (bs l) k hk⟩,PL w 5 (bs l),⟨_,_,Lib.bytesWorld_at_new w 5 (bs l)⟩,λ i c hc=>?_⟩
 ·rfl
 ·rw[PL];omega
 ·have hi:=(Pq.1 hc).1;have:=Lib.bytesWorld_cell w 5 (bs l) i (by rw[AT];exact hi);rw[this,FW,Pu,hc];rfl
theorem run_add64 (x y c:Nat) (hc:c<=1) (w:Pa):(callFunc 184 #[.int .u64 x,.int .u64 y,.int .u64 c]).run A_ w =
  .ok (.value (.tuple #[.int .u64 (((x+y+c)%18446744073709551616:Nat):Int),.int .u64 (((x+y+c)/18446744073709551616:Nat):Int)])) w:=by
 rw[run_callFunc_extern Tryz.func184 (by kernel_rfl) (by kernel_rfl) (by kernel_rfl) (e:=Go.add64Entry) (by kernel_rfl),Go.run_add64 x y c (by omega) (by omega) (by omega) (by omega)]
 simp only[Result.andThen]
 congr 5<;>omega
theorem Kept.undrew {F:Nat->Prop} {a w:Pa} (h:Kept F a.drew w):Kept F a w:=⟨h.os,h.tape,h.output,h.size,h.block⟩
theorem Kept.undrew2 {F:Nat->Prop} {a w:Pa} (h:Kept F a.drew.drew w):Kept F a w:=h.undrew.undrew
def CU (w:Pa) (A:Option Pd) (ls:List (List UInt8)):Prop:=∀ (i:Nat) (l:List UInt8),ls[i]? = some l->∃ b off,A=some ⟨b,off,none⟩/\b<w.heap.size/\w.cell? ⟨b,off+i,none⟩=some (str l)
theorem CU.kept {F:Nat->Prop} {w w':Pa} {A:Option Pd} {l:List (List UInt8)} (h:CU w A l) (hK:Kept F w w') (hF:∀ a,A=some a->¬ F a.block):CU w' A l:=λ i x hx=>by
 obtain⟨b,off,hA,hb,hc⟩:=h i x hx;exact⟨b,off,hA,Nat.lt_of_lt_of_le hb hK.size,hK.cell hc (show ¬ F b from hF _ hA)⟩
theorem CU.grew {w w':Pa} {A:Option Pd} {l:List (List UInt8)} (h:CU w A l) (hK:Ac w w'):CU w' A l:=h.kept hK λ _ _ h=>h
def BD (w:Pa) (B:Nat) (v:Pb) (ls:List (List UInt8)):Prop:=w.ownsRow B 9 1 v ls.length (ls.map str)
theorem BD.row {w:Pa} {B:Nat} {v:Pb} {zs:List (List UInt8)} (h:BD w B v zs):∃ A c,v=.slice A zs.length c/\CU w A zs:=by
 rcases h.2 with ⟨hv,h0⟩ | ⟨g,cap,cur,hv,hb,hg,rest⟩
 ·exact⟨none,0,by rw[hv,h0],λ i z hz=>by rw[List.eq_nil_of_length_eq_zero h0]at hz;simp at hz⟩
 ·refine⟨_,cap,hv,λ i z hz=>⟨g,0,rfl,(Array.getElem?_eq_some_iff.1 hg).1,?_⟩⟩;subst hv;have hi:=(Pq.1 hz).1;have:=World.ownsRow.cellAt h i (by omega);rw[Nat.zero_add];rw[this,List.getElem?_map,hz];rfl
theorem BD.grew {w w':Pa} {B:Nat} {v:Pb} {zs:List (List UInt8)} (h:BD w B v zs) (k:Ac w w'):BD w' B v zs:=Ac.own k h
theorem BD.kept {F:Nat->Prop} {w w':Pa} {B:Nat} {v:Pb} {zs:List (List UInt8)} (h:BD w B v zs) (k:Kept F w w') (hF:∀ j,v.ownBlock=some j->¬ F j):BD w' B v zs:=Kept.own k h hF
theorem Kept.setRow {F:Nat->Prop} {a W:Pa} {g:Nat} (h:Kept F a W) (hg:F g\/a.heap.size<=g) (cs:Array Pb):Kept F a (W.setRow g cs) :=
 ⟨h.os,h.tape,h.output,by rw[size_setRow];exact h.size,λ k hk hf=>by
  rw[setRow_other W g k cs (λ e=>by subst e;rcases hg with hg | hg<;>first | exact hf hg | omega)];exact h.block k hk hf⟩
theorem Am.setRow {W:Pa} {g:Nat} {t:TypeId} {cs:Array Pb} (h:Am W g t cs) (lN:Array Pb):Am (W.setRow g lN) g t lN:=setRow_heap W g cs lN t (0,0) h
theorem Am.farRow {W:Pa} {g k:Nat} {t:TypeId} {cs:Array Pb} (h:Am W k t cs) (hk:k≠g) (lN:Array Pb):Am (W.setRow g lN) k t cs:=(setRow_other W g k lN hk).trans h
theorem Am.three {w:Pa} {g:Nat} {t:TypeId} {a b c d e f:Pb} (h:Am w g t #[a,b,c,d,e,f]) (p q r:Pb):Am (((w.setCell ⟨g,0,none⟩ p).setCell ⟨g,1,none⟩ q).setCell ⟨g,2,none⟩ r) g t #[p,q,r,d,e,f]:=((h.set 0 p).set 1 q).set 2 r
theorem AF {cs:Array Pb} (h:∀ v∈cs.toList,v.oneCell'=true):cs.all (·.oneCell')=true:=Array.all_eq_true_iff_forall_mem.2 λ v hv=>h v (by simpa using hv)
theorem NI {P:Program} {fn:Func} {tmps:Array Pb} {w:Pa} {a:Nat} {t:TypeId} {g:Pd} {v:Pb} (hr:fn.results=#[.cell a t]) (ha:tmps.getD a undef=.pointer (some g)) (hl:(loadVar t g).run P w=.ok v w):(results fn tmps).run P w=.ok v w:=by
 have ha':tmps[a]?.getD undef=.pointer (some g):=(by simpa using ha);unfold results;rw[hr];simp[ha',hl,asAddr,Sem.run_bind,Sem.run_pure]
abbrev NP (hops settles:Int) (B4:Pb) (ph n:Int) (ev hv:Pb) (c0 c1 c2:Int):Array Pb:=#[i64 hops,i64 settles,B4,i64 ph,i64 n,ev,hv,i64 c0,i64 c1,i64 c2]
def iH (w:Pa) (Y:Nat) (hops settles:Int) (B4:Pb) (ph n:Int) (ev hv:Pb) (c0 c1 c2:Int):Prop:=Am w Y 115 (NP hops settles B4 ph n ev hv c0 c1 c2)
def Ft (ph Gm:Nat):Nat:=if ph=4 then 14 else if ph=0 then (if 0<Gm then 11 else 0) else if ph=1 then (if 1<Gm then 12 else 0) else if ph=3 then (if 1<Gm then 13 else 0) else 0
section
variable {w:Pa} {Y:Nat} {hops settles:Int} {B4:Pb} {n:Int} {ev hv:Pb} {c0 c1 c2:Int}
theorem E8 (ph Gm:Nat) (DP:ph<=4) (hn:Gm<=2) (h:iH w Y hops settles B4 ph n ev hv c0 c1 c2) :
  Pc A_ 83 #[pt Y,i64 Gm] w λ e w'=>e=.returned (i64 (Ft ph Gm))/\w=w':=by
 have e3:=h.cell 3
 simp[NP]at e3
 clear h
 have h5:ph=0\/ph=1\/ph=2\/ph=3\/ph=4:=by omega
 have h3:Gm=0\/Gm=1\/Gm=2:=by omega
 clear DP hn
 rcases h5 with rfl | rfl | rfl | rfl | rfl<;>rcases h3 with rfl | rfl | rfl <;>
  (go_enter Tryz.func83,Tryz.ntmps83
   go_wp2_with fail
   go_ret
   exact⟨rfl,rfl⟩)
theorem kC (ph:Int) (h:iH w Y hops settles B4 ph n ev hv c0 c1 c2) :
  Pc A_ 44 #[pt Y] w λ e w'=>e=.returned (i64 ph)/\w=w':=by
 have e3:=h.cell 3
 simp[NP]at e3
 clear h
 go_enter Tryz.func44,Tryz.ntmps44
 go_wp2_with fail
 go_ret
 exact⟨rfl,rfl⟩
theorem IU (ph:Nat) (DP:ph<=4) (h:iH w Y hops settles B4 ph n ev hv c0 c1 c2) :
  Pc A_ 49 #[pt Y] w λ e w'=>e=.returned (i64 (Ft ph 2))/\w=w':=by
 have HM:=zh (E8 ph 2 DP (by omega) h)
 clear h
 go_enter Tryz.func49,Tryz.ntmps49
 go_wp2_with fail
 refine HM.out.mono ?_
 rintro e w1 ⟨rfl,rfl⟩
 clear HM
 go_wp2_with fail
 go_ret
 exact⟨rfl,rfl⟩
theorem GU (h:iH w Y hops settles B4 2 n ev hv c0 c1 c2) :
  Pc A_ 31 #[pt Y] w λ e w'=>e=.returned (.tuple #[hv,i64 0])/\Ac w w':=by
 have HM:=zh (λ w' (k:Ac w w')=>IU 2 (by omega) (show iH w' Y _ _ _ _ _ _ _ _ _ _ from Am.grew h k))
 have HB:PD (iH w Y hops settles B4 2 n ev hv c0 c1 c2):=h
 clear h
 go_enter Tryz.func31,Tryz.ntmps31
 go_wp2_with fail
 refine(HM.out _ (zr _ _)).mono ?_
 rintro e w1 ⟨rfl,rfl⟩
 have e6:=Am.cell HB.out 6
 simp[NP]at e6
 clear HM
 go_wp2_with fail
 go_ret2
 exact⟨rfl,zr _ _⟩
theorem IX (ph:Nat) (DP:ph<=4) (hn:ph≠2) (h:iH w Y hops settles B4 ph n ev hv c0 c1 c2) :
  Pc A_ 31 #[pt Y] w λ e w'=>e=.returned (.tuple #[.pointer none,i64 (Ft ph 2)])/\Ac w w':=by
 have HM:=zh (IU ph DP h)
 have hf:Ft ph 2≠0:=by
  have:ph=0\/ph=1\/ph=3\/ph=4:=(by omega);rcases this with rfl | rfl | rfl | rfl<;>decide
 obtain⟨f,rM⟩:=zn (Ft ph 2)
 rw[rM]at HM hf ⊢
 have dL:¬ (f:Int)=0:=by omega
 clear h rM hf
 go_enter Tryz.func31,Tryz.ntmps31
 go_wp2_with fail
 refine HM.out.mono ?_
 rintro e w1 ⟨rfl,rfl⟩
 clear HM
 go_wp2_with fail
 go_ret2
 exact⟨rfl,zr _ _⟩
end
def SvB (w:Pa) (X Y:Nat) (left:List UInt8) (done:Int):Prop:=Am w X 84 #[pt Y,str left,i64 done]
section
variable {w:Pa} {X Y:Nat} {left:List UInt8} {done:Int} {hops settles:Int} {B4:Pb} {n:Int} {ev hv:Pb} {c0 c1 c2:Int}
theorem Jj (ph:Int) (hx:SvB w X Y left done) (h:iH w Y hops settles B4 ph n ev hv c0 c1 c2) :
  Pc A_ 22 #[pt X] w λ e w'=>e=.returned (i64 ph)/\w=w':=by
 have HM:=zh (kC ph h)
 have e0:=Am.cell hx 0
 simp at e0
 clear h hx
 go_enter Tryz.func22,Tryz.ntmps22
 go_wp2_with fail
 refine HM.out.mono ?_
 rintro e w1 ⟨rfl,rfl⟩
 clear HM
 go_wp2_with fail
 go_ret
 exact⟨rfl,rfl⟩
end
theorem FR (c:Int) (b:Bool) (h:decide (33<=c/\c<=126)=b) (w:Pa):Pc A_ 86 #[.int .u8 c] w λ e w'=>e=.returned (.bool b)/\w=w':=by
 rcases PH c 33 with h1 | h1
 ·obtain rfl:b=false:=by rw[<- h];exact zf (by omega)
  have h2:¬ (33:Int)<=c:=(by omega);clear h;go_enter M_,L_;go_wp2_with fail;go_ret;exact⟨rfl,rfl⟩
 ·rcases PH 126 c with h2 | h2
  ·obtain rfl:b=false:=by rw[<- h];exact zf (by omega)
   have h3:¬ c<=(126:Int):=(by omega);clear h;go_enter M_,L_;go_wp2_with fail;go_ret;exact⟨by simp,rfl⟩
  ·obtain rfl:b=true:=by rw[<- h];exact zt ⟨h1,h2⟩
   clear h;go_enter M_,L_;go_wp2_with fail;go_ret;exact⟨by simp,rfl⟩
def EE (ws:List (List UInt8)) (k:Nat):Nat:=(At (ws.take k)).length
theorem I8 {ws:List (List UInt8)} {k:Nat} {x:List UInt8} (h:ws[k]? = some x):∃ sep:List UInt8,At ws=(At (ws.take k)++sep)++(x++C7 (ws.drop (k+1)))/\At (ws.take (k+1))=(At (ws.take k)++sep)++x/\(k=0/\sep=[]\/0<k/\sep=[32]):=by
 have hk:=(Pq.1 h);obtain⟨Kn,hx⟩:=hk;have e1:ws=ws.take k++x::ws.drop (k+1):=(by rw[<- hx,List.getElem_cons_drop,Pw]);have e2:ws.take (k+1)=ws.take k++[x]:=by rw[Po,h];rfl
 cases hw:ws.take k with
 | nil =>
  have Fj:k=0:=by
   have:=congrArg List.length hw;rw[Pr,List.length_nil]at this;omega
  refine⟨[],?_,?_,.inl ⟨Fj,rfl⟩⟩
  ·conv=>lhs;rw[e1,hw]
   simp[At]
  ·rw[e2,hw];simp[At,C7]
 | cons y ys =>
  have Fj:0<k:=by
   apply Nat.pos_of_ne_zero;rintro rfl;simp at hw
  refine⟨[32],?_,?_,.inr ⟨Fj,rfl⟩⟩
  ·conv=>lhs;rw[e1,hw]
   simp[At,C7]
  ·rw[e2,hw];simp[At,C7]
structure mM (l:List UInt8) (ws:List (List UInt8)) (k:Nat) (x:List UInt8) (q:Nat):Prop where
 from':q=EE ws k\/q=EE ws k+1/\l[EE ws k]? = some 32
 at':∀ j,j<x.length->l[q+j]? = x[j]?
 to':q+x.length=EE ws (k+1)
 le:EE ws (k+1)<=l.length
 next:EE ws (k+1)=l.length\/l[EE ws (k+1)]? = some 32
 cut:(l.drop q).take x.length=x
theorem NW {ws:List (List UInt8)} {k:Nat} {x:List UInt8} (h:ws[k]? = some x):∃ q,mM (At ws) ws k x q:=by
 obtain⟨sep,h1,h2,h3⟩:=I8 h;have hp:EE ws (k+1)=(At (ws.take k)++sep).length+x.length:=by unfold EE;rw[h2,Pn]
 refine⟨(At (ws.take k)++sep).length,?_,λ j hj=>?_,hp.symm,?_,?_,?_⟩
 ·rcases h3 with ⟨_,rfl⟩ | ⟨_,rfl⟩
  ·exact .inl (by rw[List.append_nil];rfl)
  ·refine .inr ⟨by rw[Pn];rfl,?_⟩;rw[h1,Pv (by simp[EE]),Pp (by simp[EE])];simp[EE]
 ·rw[h1,Pp (by omega),Pv (by omega)];congr 1;omega
 ·rw[hp,h1];simp only[Pn];omega
 ·rw[hp,h1];cases hd:ws.drop (k+1) with
  | nil=>left;simp[C7];omega
  | cons y ys =>
   right;rw[Pp (by omega),Pp (by omega),Fh];rw[show (At (ws.take k)++sep).length+x.length-(At (ws.take k)++sep).length-x.length=0 by omega];rfl
 ·rw[h1,List.drop_left,List.take_left]
theorem uB (ws:List (List UInt8)):EE ws ws.length=(At ws).length:=by unfold EE;rw[List.take_length]
theorem C6:(A_.info? 9).map (λ i=>(i.zero,i.size,i.bytes))=some (some (.string ⟨#[]⟩),1,16):=by kernel_rfl
theorem Eb {c:UInt8} (h:sgn c=true):decide (33<=(c.toNat:Int)/\(c.toNat:Int)<=126)=true/\((c.toNat:Int)==32)=false/\((c.toNat:Int)==9)=false:=by
 have h:=of_decide_eq_true h;exact⟨zt (by omega),beq_eq_false_iff_ne.2 (by omega),beq_eq_false_iff_ne.2 (by omega)⟩
theorem lD (ws:List (List UInt8)) (Ba:∀ x∈ws,Cp x) (hlen:(At ws).length<=65536) (hn:ws.length<=16384) (w:Pa) :
  Pc A_ 52 #[str (At ws)] w λ e w'=>∃ v,e=.returned (.tuple #[v,i64 0])/\BD w' w.heap.size v ws/\Ac w w':=by
 obtain⟨l,hl⟩:=zn (At ws)
 obtain⟨L,hL⟩:=zn (l.length)
 obtain⟨n,yU⟩:∃ n,ws.length=n:=⟨_,rfl⟩
 rw[hl]at hlen ⊢
 rw[hL]at hlen
 rw[yU]at hn
 have hs:(bs l).size=L:=by rw[AT,hL]
 have HA:PD (∀ k x,ws[k]? = some x->∃ q,mM l ws k x q):=λ k x h=>by rw[<- hl];exact NW h
 have HE:PD (EE ws n=L):=by show _=_;rw[<- yU,uB,hl,hL]
 have HL:=zh hL
 have HN:=zh yU
 have HO:=zh Ba
 have l0:¬ (65536:Int)<(L:Int):=by omega
 obtain⟨B,hB⟩:=zn (w.heap.size)
 have HB:=zh hB
 rw[hB]
 clear hl hL yU Ba hB
 go_enter Tryz.func52,Tryz.ntmps52
 go_wp2_with fail
 refine Jw (λ lab a' w'=>(lab=0/\∃ (k:Nat) (v u5 u6 u7 u8 u9 qt wR rY lA lB qu u16 qw qx qy qz qA qB qC qD qE qF qH qI qJ qK qL u32 qM qN qO qP qQ qR qS qT qU qV qW qX qY qZ re rh mb mc me mg mh mn mo mq mr:Pb),k<=n/\a'={ tmps:=#[str l,undef,v,i64 0,i64 (EE ws k:Nat),u5,u6,u7,u8,u9,qt,wR,rY,lA,lB,qu,u16,qw,qx,qy,qz,qA,qB,qC,qD,qE,qF,qH,qI,qJ,qK,qL,u32,qM,qN,qO,qP,qQ,qR,qS,qT,qU,qV,qW,qX,qY,qZ,re,rh,mb,mc,me,mg,mh,mn,mo,mq,mr],defers:=[] }/\BD w' B v (ws.take k)/\Ac w w') \/
  (lab=1/\∃ (v u4 u5 u6 u7 u8 u9 qt wR rY lA lB qu u16 qw qx qy qz qA qB qC qD qE qF qH qI qJ qK qL u32 qM qN qO qP qQ qR qS qT qU qV qW qX qY qZ re rh mb mc me mg mh mn mo mq mr:Pb),a'={ tmps:=#[str l,undef,v,i64 0,u4,u5,u6,u7,u8,u9,qt,wR,rY,lA,lB,qu,u16,qw,qx,qy,qz,qA,qB,qC,qD,qE,qF,qH,qI,qJ,qK,qL,u32,qM,qN,qO,qP,qQ,qR,qS,qT,qU,qV,qW,qX,qY,qZ,re,rh,mb,mc,me,mg,mh,mn,mo,mq,mr],defers:=[] }/\BD w' B v ws/\Ac w w')) (λ lab a' _=>if lab=0 then L+5-(intOf (a'.tmps.getD 4 undef)).toNat else 0) ?_ ?_
 ·go_wp2_with fail;go_step3;obtain⟨k,Fj⟩:∃ k:Nat,k=0:=⟨0,rfl⟩;have rA:=zh Fj;have hk:k<=n:=(by omega);obtain⟨v,hv⟩:=zn (PM none 0 0);have AV:BD w B v (ws.take k):=by rw[<- hv,Fj];exact Ph _ _ _ _
  have hg:Ac w w:=zr _ w;rw[hv];clear Fj hv;obtain⟨p,hp⟩:=zn (EE ws k);have MV:PD (BD w B v (ws.take k)/\Ac w w):=⟨AV,hg⟩;by_cases hkn:k<n
  ·obtain⟨x,hx⟩:=zx (l:=ws) (i:=k) (by rw[HN.out];exact hkn);obtain⟨q,hq⟩:=HA.out k x hx;have HX:=zh hx;have HQ:=zh hq;obtain⟨p1,ET⟩:=zn (EE ws (k+1));obtain⟨m,hm⟩:=zn (x.length);have HM:=zh hm;have fi:=zh ET;have HP:=zh hp;have AM:=HO.out x (zm hx);have HXO:=zh AM;have jE:0<m:=by rw[<- hm];exact Px.2 AM.1
   have q1:q+m=p1:=by rw[<- hm,<-ET];exact hq.to'
   have q2:p1<=L:=by rw[<- ET,<-HL.out];exact hq.le
   have q0:q=p\/q=p+1:=by rw[<- hp];rcases hq.from' with h | h;exact .inl h;exact .inr h.1
   have Q1:PD (q+m=p1):=q1;have Q0:PD (q=p\/q=p+1):=q0;clear hx hq ET hm hp AM q1 q0;go_wp2_with fail;go_loop [4] (λ i=>∃ j:Nat,i=.int .i64 j/\(j=p\/j=q)) (λ i=>L-(intOf i).toNat)
   case atStart=>exact⟨0,rfl,.inl (by have h0:=rA.out;have h1:=HP.out;rw[h0]at h1;exact h1)⟩
   case round =>
    obtain⟨j,rfl,hj⟩:=hrel;by_cases hjq:j=q
    ·subst hjq;clear hj;obtain⟨c,hc⟩:=zx (l:=x) (i:=0) (by rw[HM.out];exact jE);have Mu:l[j]? = some c:=by have:=HQ.out.at' 0 (by rw[HM.out];exact jE);rw[hc]at this;exact this
     have ra:=λ W=>EF l j Mu W;have Ks:=Eb (HXO.out.2 c (zm hc));obtain⟨cz,LQ⟩:∃ z:Int,(c.toNat:Int)=z:=⟨_,rfl⟩;rw[LQ]at Ks;simp only[LQ]at ra;have b1:=Ks.2.1;have b2:=Ks.2.2;have j1:(j:Int)<(L:Int):=by have:=Q1.out;omega
     have j2:((j:Int)==(L:Int))=false:=beq_eq_false_iff_ne.2 (by omega);clear hc Mu LQ Ks;go_wp2_with fail;clear ra b1 b2;go_loop [4] (λ i=>∃ t:Nat,i=.int .i64 (j+t:Nat)/\t<=m) (λ i=>L-(intOf i).toNat)
     case atStart=>exact⟨0,rfl,Nat.zero_le _⟩
     case round =>
      obtain⟨t,rfl,ht⟩:=hrel;by_cases htm:t<m
      ·obtain⟨c,hc⟩:=zx (l:=x) (i:=t) (by rw[HM.out];exact htm);have Mu:l[j+t]? = some c:=by rw[HQ.out.at' t (by rw[HM.out];exact htm)];exact hc
       have ra:=λ W=>EF l (j+t) Mu W;have Ks:=zh (λ W=>FR (c.toNat:Int) true (Eb (HXO.out.2 c (zm hc))).1 W);have j3:((j+t:Nat):Int)<(L:Int):=by have:=Q1.out;omega
       obtain⟨jt,yL⟩:=zn (j+t);rw[yL]at ra j3 ⊢;have HJT:=zh yL;obtain⟨cz,LQ⟩:∃ z:Int,(c.toNat:Int)=z:=⟨_,rfl⟩;simp only[LQ]at ra Ks;clear hc Mu LQ yL;go_wp2_with fail;refine(Ks.out _).mono ?_;rintro e w5 ⟨rfl,rfl⟩;clear ra Ks;go_wp2_with fail;go_round
       case rel=>exact⟨t+1,by rw[show (j+(t+1):Nat)=jt+1 by have:=HJT.out;omega];go_num,by omega⟩
       case measure=>simp[intOf];omega
      ·obtain rfl:t=m:=(by omega);have e1:j+t=p1:=Q1.out;rw[e1];have Kk:=λ W=>gT l j p1 (by have:=Q1.out;omega) (by rw[HL.out];exact q2) W;rw[show p1-j=t by have:=Q1.out;omega,<-HM.out,HQ.out.cut]at Kk;have j5:((p1:Int)==(j:Int))=false:=beq_eq_false_iff_ne.2 (by have:=Q1.out;omega);obtain⟨A2,c2,GO,_⟩:=MV.out.1.row;have Eh:(ws.take k).length=k:=by rw[Pr,HN.out];omega
       rw[Eh]at GO;have OV:=zh Eh;have C5:PD ((w.alloc (.cells #[str x] 9)).ownsRow B 9 1 v k ((ws.take k).map str)):=by
        have h:=MV.out.1.grew ((zr (λ _=>False) w).alloc (.cells #[str x] 9))
        unfold BD at h
        rw[Eh]at h
        exact h
       have hN:PD (∀ r u,[str x][r]? = some u->(w.alloc (.cells #[str x] 9)).cell? ((⟨w.heap.size,0,none⟩:Pd).add r)=some u):=Pg (heap_alloc_new w (.cells #[str x] 9));have Df:PD (B<=w.heap.size):=by have:=MV.out.2.size;have:=HB.out;show B<=_;omega
       have rO:k<=16384:=(by omega);have HV2:=zh GO;obtain⟨i0,hi,Cu,BV,Cj⟩:=info_parts C6;clear GO Eh e1 htm j2;by_cases hp1L:p1=L
       ·have j6:¬ (p1:Int)<(L:Int):=(by omega);have zAI:=zh hp1L;clear hp1L;go_wp2_with
         (at_builtin
          refine wpList_append_lies _ rfl (.tmp 47) (.tmp 52) 40 (by rfl) B 9 i0 (.string ⟨#[]⟩) 1 16 B_ hi Cu BV Cj (by rfl) (by omega) v k ((ws.take k).map str) (by rfl) C5.out ⟨w.heap.size,0,none⟩ 1 1 [str x] (by rfl) (by rfl) hN.out (by intro u hu;simp at hu;subst hu;rfl) (by omega) (by unfold maxLen;omega) (by omega) (by have:=Df.out;simp;omega) _ rfl ?_
          intro g cp wa Bb AD _ _
          have HF:PD (BD wa B (.slice (some ⟨g,0,none⟩) (k+1) cp) (ws.take (k+1))/\Ac w wa):=by
           refine⟨?_,?_⟩
           ·have e:ws.take (k+1)=ws.take k++[x]:=by rw[Po,HX.out];rfl
            unfold BD;rw[e,Pn,Ps,OV.out];exact Bb
           ·have kA:Kept (λ j=>v.ownBlock=some j) w wa:=((zr _ _).alloc _).grown AD (λ k hk=>.inl hk);have g0:=MV.out.2;exact g0.then kA (λ i hi h=>by have:=(MV.out.1.lt i h).1;have:=HB.out;omega)
          clear Bb AD)
        go_wp2_with fail;have F7:=fi.out;subst F7;clear Kk;go_step3;exact Or.inl ⟨rfl,k+1,_,_,_,_,_,_,_,_,_,_,_,_,_,_,_,_,_,_,_,_,_,_,_,_,_,_,_,_,_,_,_,_,_,_,_,_,_,_,_,_,_,_,_,_,_,_,_,_,_,_,_,_,_,_,by omega,rfl,HF.out.1,HF.out.2⟩
       ·have j6:(p1:Int)<(L:Int):=(by omega);have ra:∀ W,(Pj 9 (.string (bs l)) (.int .i64 (p1:Int))).run A_ W=.ok (.int .u8 32) W:=λ W=>by
         rcases HQ.out.next with h | h
         ·exact absurd (by rw[<- fi.out,h,HL.out]) hp1L
         ·exact EF l p1 (by rw[<- fi.out];exact h) W
        have Ks:=zh (λ W=>FR 32 false (by decide) W);clear hp1L;go_wp2_with fail;refine(Ks.out _).mono ?_;rintro e w5 ⟨rfl,rfl⟩;clear Ks;go_wp2_with
         (at_builtin
          refine wpList_append_lies _ rfl (.tmp 47) (.tmp 52) 40 (by rfl) B 9 i0 (.string ⟨#[]⟩) 1 16 B_ hi Cu BV Cj (by rfl) (by omega) v k ((ws.take k).map str) (by rfl) C5.out ⟨w.heap.size,0,none⟩ 1 1 [str x] (by rfl) (by rfl) hN.out (by intro u hu;simp at hu;subst hu;rfl) (by omega) (by unfold maxLen;omega) (by omega) (by have:=Df.out;simp;omega) _ rfl ?_
          intro g cp wa Bb AD _ _
          have HF:PD (BD wa B (.slice (some ⟨g,0,none⟩) (k+1) cp) (ws.take (k+1))/\Ac w wa):=by
           refine⟨?_,?_⟩
           ·have e:ws.take (k+1)=ws.take k++[x]:=by rw[Po,HX.out];rfl
            unfold BD;rw[e,Pn,Ps,OV.out];exact Bb
           ·have kA:Kept (λ j=>v.ownBlock=some j) w wa:=((zr _ _).alloc _).grown AD (λ k hk=>.inl hk);have g0:=MV.out.2;exact g0.then kA (λ i hi h=>by have:=(MV.out.1.lt i h).1;have:=HB.out;omega)
          clear Bb AD)
        go_wp2_with fail;have F7:=fi.out;subst F7;clear Kk ra;go_step3;exact Or.inl ⟨rfl,k+1,_,_,_,_,_,_,_,_,_,_,_,_,_,_,_,_,_,_,_,_,_,_,_,_,_,_,_,_,_,_,_,_,_,_,_,_,_,_,_,_,_,_,_,_,_,_,_,_,_,_,_,_,_,_,by omega,rfl,HF.out.1,HF.out.2⟩
    ·have hjp:j=p:=by rcases hj with h | h;exact h;exact absurd h hjq
     subst hjp;clear hj;have cD:q=j+1:=by rcases Q0.out with h | h;exact absurd h.symm hjq;exact h
     have ra:∀ W,(Pj 9 (.string (bs l)) (.int .i64 (j:Int))).run A_ W=.ok (.int .u8 32) W:=λ W=>by
      rcases HQ.out.from' with h | h
      ·exact absurd (by rw[h,HP.out]) hjq
      ·exact EF l j (by rw[<- HP.out];exact h.2) W
     have j1:(j:Int)<(L:Int):=by have:=Q1.out;omega
     have xu:=zh cD;clear cD hjq;go_wp2_with fail;go_round
     case rel=>exact⟨j+1,by go_num,.inr xu.out.symm⟩
     case measure=>simp[intOf];omega
  ·have dO:k=n:=(by omega);have hpL:p=L:=by rw[<- hp,dO];exact HE.out
   subst hpL;have hws:ws.take k=ws:=by rw[dO];exact Pt (by rw[HN.out];exact zl _)
   have xE:PD (BD w B v ws/\Ac w w):=by have h:=MV.out;rw[hws]at h;exact h
   have HPZ:=zh hp;clear hp hkn dO hws MV;go_wp2_with fail;go_loop [4] (λ i=>i=.int .i64 (p:Int)) (λ i=>1)
   case atStart=>exact(by have h0:=rA.out;have h1:=HPZ.out;rw[h0]at h1;rw[<- h1];rfl)
   case round =>
    subst hrel;go_wp2_with fail;go_step3;exact Or.inr ⟨rfl,_,_,_,_,_,_,_,_,_,_,_,_,_,_,_,_,_,_,_,_,_,_,_,_,_,_,_,_,_,_,_,_,_,_,_,_,_,_,_,_,_,_,_,_,_,_,_,_,_,_,_,_,_,_,_,rfl,xE.out.1,xE.out.2⟩
 ·rintro lab a' w' (⟨rfl,k,v,u5,u6,u7,u8,u9,qt,wR,rY,lA,lB,qu,u16,qw,qx,qy,qz,qA,qB,qC,qD,qE,qF,qH,qI,qJ,qK,qL,u32,qM,qN,qO,qP,qQ,qR,qS,qT,qU,qV,qW,qX,qY,qZ,re,rh,mb,mc,me,mg,mh,mn,mo,mq,mr,hk,rfl,AV,hg⟩ | ⟨rfl,v,u4,u5,u6,u7,u8,u9,qt,wR,rY,lA,lB,qu,u16,qw,qx,qy,qz,qA,qB,qC,qD,qE,qF,qH,qI,qJ,qK,qL,u32,qM,qN,qO,qP,qQ,qR,qS,qT,qU,qV,qW,qX,qY,qZ,re,rh,mb,mc,me,mg,mh,mn,mo,mq,mr,rfl,AV,hg⟩)
  ·refine⟨_,rfl,?_⟩;obtain⟨p,hp⟩:=zn (EE ws k);rw[hp];have MV:PD (BD w' B v (ws.take k)/\Ac w w'):=⟨AV,hg⟩;by_cases hkn:k<n
   ·obtain⟨x,hx⟩:=zx (l:=ws) (i:=k) (by rw[HN.out];exact hkn);obtain⟨q,hq⟩:=HA.out k x hx;have HX:=zh hx;have HQ:=zh hq;obtain⟨p1,ET⟩:=zn (EE ws (k+1));obtain⟨m,hm⟩:=zn (x.length);have HM:=zh hm;have fi:=zh ET;have HP:=zh hp;have AM:=HO.out x (zm hx);have HXO:=zh AM;have jE:0<m:=by rw[<- hm];exact Px.2 AM.1
    have q1:q+m=p1:=by rw[<- hm,<-ET];exact hq.to'
    have q2:p1<=L:=by rw[<- ET,<-HL.out];exact hq.le
    have q0:q=p\/q=p+1:=by rw[<- hp];rcases hq.from' with h | h;exact .inl h;exact .inr h.1
    have Q1:PD (q+m=p1):=q1;have Q0:PD (q=p\/q=p+1):=q0;clear hx hq ET hm hp AM q1 q0;go_wp2_with fail;go_loop [4] (λ i=>∃ j:Nat,i=.int .i64 j/\(j=p\/j=q)) (λ i=>L-(intOf i).toNat)
    case atStart=>exact⟨p,rfl,.inl rfl⟩
    case round =>
     obtain⟨j,rfl,hj⟩:=hrel;by_cases hjq:j=q
     ·subst hjq;clear hj;obtain⟨c,hc⟩:=zx (l:=x) (i:=0) (by rw[HM.out];exact jE);have Mu:l[j]? = some c:=by have:=HQ.out.at' 0 (by rw[HM.out];exact jE);rw[hc]at this;exact this
      have ra:=λ W=>EF l j Mu W;have Ks:=Eb (HXO.out.2 c (zm hc));obtain⟨cz,LQ⟩:∃ z:Int,(c.toNat:Int)=z:=⟨_,rfl⟩;rw[LQ]at Ks;simp only[LQ]at ra;have b1:=Ks.2.1;have b2:=Ks.2.2;have j1:(j:Int)<(L:Int):=by have:=Q1.out;omega
      have j2:((j:Int)==(L:Int))=false:=beq_eq_false_iff_ne.2 (by omega);clear hc Mu LQ Ks;go_wp2_with fail;clear ra b1 b2;go_loop [4] (λ i=>∃ t:Nat,i=.int .i64 (j+t:Nat)/\t<=m) (λ i=>L-(intOf i).toNat)
      case atStart=>exact⟨0,rfl,Nat.zero_le _⟩
      case round =>
       obtain⟨t,rfl,ht⟩:=hrel;by_cases htm:t<m
       ·obtain⟨c,hc⟩:=zx (l:=x) (i:=t) (by rw[HM.out];exact htm);have Mu:l[j+t]? = some c:=by rw[HQ.out.at' t (by rw[HM.out];exact htm)];exact hc
        have ra:=λ W=>EF l (j+t) Mu W;have Ks:=zh (λ W=>FR (c.toNat:Int) true (Eb (HXO.out.2 c (zm hc))).1 W);have j3:((j+t:Nat):Int)<(L:Int):=by have:=Q1.out;omega
        obtain⟨jt,yL⟩:=zn (j+t);rw[yL]at ra j3 ⊢;have HJT:=zh yL;obtain⟨cz,LQ⟩:∃ z:Int,(c.toNat:Int)=z:=⟨_,rfl⟩;simp only[LQ]at ra Ks;clear hc Mu LQ yL;go_wp2_with fail;refine(Ks.out _).mono ?_;rintro e w5 ⟨rfl,rfl⟩;clear ra Ks;go_wp2_with fail;go_round
        case rel=>exact⟨t+1,by rw[show (j+(t+1):Nat)=jt+1 by have:=HJT.out;omega];go_num,by omega⟩
        case measure=>simp[intOf];omega
       ·obtain rfl:t=m:=(by omega);have e1:j+t=p1:=Q1.out;rw[e1];have Kk:=λ W=>gT l j p1 (by have:=Q1.out;omega) (by rw[HL.out];exact q2) W;rw[show p1-j=t by have:=Q1.out;omega,<-HM.out,HQ.out.cut]at Kk;have j5:((p1:Int)==(j:Int))=false:=beq_eq_false_iff_ne.2 (by have:=Q1.out;omega);obtain⟨A2,c2,GO,_⟩:=MV.out.1.row;have Eh:(ws.take k).length=k:=by rw[Pr,HN.out];omega
        rw[Eh]at GO;have OV:=zh Eh;have C5:PD ((w'.alloc (.cells #[str x] 9)).ownsRow B 9 1 v k ((ws.take k).map str)):=by
         have h:=MV.out.1.grew ((zr (λ _=>False) w').alloc (.cells #[str x] 9))
         unfold BD at h
         rw[Eh]at h
         exact h
        have hN:PD (∀ r u,[str x][r]? = some u->(w'.alloc (.cells #[str x] 9)).cell? ((⟨w'.heap.size,0,none⟩:Pd).add r)=some u):=Pg (heap_alloc_new w' (.cells #[str x] 9));have Df:PD (B<=w'.heap.size):=by have:=MV.out.2.size;have:=HB.out;show B<=_;omega
        have rO:k<=16384:=(by omega);have HV2:=zh GO;obtain⟨i0,hi,Cu,BV,Cj⟩:=info_parts C6;clear GO Eh e1 htm j2;by_cases hp1L:p1=L
        ·have j6:¬ (p1:Int)<(L:Int):=(by omega);have zAI:=zh hp1L;clear hp1L;go_wp2_with
          (at_builtin
           refine wpList_append_lies _ rfl (.tmp 47) (.tmp 52) 40 (by rfl) B 9 i0 (.string ⟨#[]⟩) 1 16 B_ hi Cu BV Cj (by rfl) (by omega) v k ((ws.take k).map str) (by rfl) C5.out ⟨w'.heap.size,0,none⟩ 1 1 [str x] (by rfl) (by rfl) hN.out (by intro u hu;simp at hu;subst hu;rfl) (by omega) (by unfold maxLen;omega) (by omega) (by have:=Df.out;simp;omega) _ rfl ?_
           intro g cp wa Bb AD _ _
           have HF:PD (BD wa B (.slice (some ⟨g,0,none⟩) (k+1) cp) (ws.take (k+1))/\Ac w wa):=by
            refine⟨?_,?_⟩
            ·have e:ws.take (k+1)=ws.take k++[x]:=by rw[Po,HX.out];rfl
             unfold BD;rw[e,Pn,Ps,OV.out];exact Bb
            ·have kA:Kept (λ j=>v.ownBlock=some j) w' wa:=((zr _ _).alloc _).grown AD (λ k hk=>.inl hk);have g0:=MV.out.2;exact g0.then kA (λ i hi h=>by have:=(MV.out.1.lt i h).1;have:=HB.out;omega)
           clear Bb AD)
         go_wp2_with fail;have F7:=fi.out;subst F7;clear Kk;go_step3;refine And.intro (Or.inl ⟨rfl,k+1,_,_,_,_,_,_,_,_,_,_,_,_,_,_,_,_,_,_,_,_,_,_,_,_,_,_,_,_,_,_,_,_,_,_,_,_,_,_,_,_,_,_,_,_,_,_,_,_,_,_,_,_,_,_,by omega,rfl,HF.out.1,HF.out.2⟩) (by have:=Q1.out;have:=Q0.out;simp[intOf];omega)
        ·have j6:(p1:Int)<(L:Int):=(by omega);have ra:∀ W,(Pj 9 (.string (bs l)) (.int .i64 (p1:Int))).run A_ W=.ok (.int .u8 32) W:=λ W=>by
          rcases HQ.out.next with h | h
          ·exact absurd (by rw[<- fi.out,h,HL.out]) hp1L
          ·exact EF l p1 (by rw[<- fi.out];exact h) W
         have Ks:=zh (λ W=>FR 32 false (by decide) W);clear hp1L;go_wp2_with fail;refine(Ks.out _).mono ?_;rintro e w5 ⟨rfl,rfl⟩;clear Ks;go_wp2_with
          (at_builtin
           refine wpList_append_lies _ rfl (.tmp 47) (.tmp 52) 40 (by rfl) B 9 i0 (.string ⟨#[]⟩) 1 16 B_ hi Cu BV Cj (by rfl) (by omega) v k ((ws.take k).map str) (by rfl) C5.out ⟨w'.heap.size,0,none⟩ 1 1 [str x] (by rfl) (by rfl) hN.out (by intro u hu;simp at hu;subst hu;rfl) (by omega) (by unfold maxLen;omega) (by omega) (by have:=Df.out;simp;omega) _ rfl ?_
           intro g cp wa Bb AD _ _
           have HF:PD (BD wa B (.slice (some ⟨g,0,none⟩) (k+1) cp) (ws.take (k+1))/\Ac w wa):=by
            refine⟨?_,?_⟩
            ·have e:ws.take (k+1)=ws.take k++[x]:=by rw[Po,HX.out];rfl
             unfold BD;rw[e,Pn,Ps,OV.out];exact Bb
            ·have kA:Kept (λ j=>v.ownBlock=some j) w' wa:=((zr _ _).alloc _).grown AD (λ k hk=>.inl hk);have g0:=MV.out.2;exact g0.then kA (λ i hi h=>by have:=(MV.out.1.lt i h).1;have:=HB.out;omega)
           clear Bb AD)
         go_wp2_with fail;have F7:=fi.out;subst F7;clear Kk ra;go_step3;refine And.intro (Or.inl ⟨rfl,k+1,_,_,_,_,_,_,_,_,_,_,_,_,_,_,_,_,_,_,_,_,_,_,_,_,_,_,_,_,_,_,_,_,_,_,_,_,_,_,_,_,_,_,_,_,_,_,_,_,_,_,_,_,_,_,by omega,rfl,HF.out.1,HF.out.2⟩) (by have:=Q1.out;have:=Q0.out;simp[intOf];omega)
     ·have hjp:j=p:=by rcases hj with h | h;exact h;exact absurd h hjq
      subst hjp;clear hj;have cD:q=j+1:=by rcases Q0.out with h | h;exact absurd h.symm hjq;exact h
      have ra:∀ W,(Pj 9 (.string (bs l)) (.int .i64 (j:Int))).run A_ W=.ok (.int .u8 32) W:=λ W=>by
       rcases HQ.out.from' with h | h
       ·exact absurd (by rw[h,HP.out]) hjq
       ·exact EF l j (by rw[<- HP.out];exact h.2) W
      have j1:(j:Int)<(L:Int):=by have:=Q1.out;omega
      have xu:=zh cD;clear cD hjq;go_wp2_with fail;go_round
      case rel=>exact⟨j+1,by go_num,.inr xu.out.symm⟩
      case measure=>simp[intOf];omega
   ·have dO:k=n:=(by omega);have hpL:p=L:=by rw[<- hp,dO];exact HE.out
    subst hpL;have hws:ws.take k=ws:=by rw[dO];exact Pt (by rw[HN.out];exact zl _)
    have xE:PD (BD w' B v ws/\Ac w w'):=by have h:=MV.out;rw[hws]at h;exact h
    have HPZ:=zh hp;clear hp hkn dO hws MV;go_wp2_with fail;go_loop [4] (λ i=>i=.int .i64 (p:Int)) (λ i=>1)
    case atStart=>exact rfl
    case round =>
     subst hrel;go_wp2_with fail;go_step3;refine And.intro (Or.inr ⟨rfl,_,_,_,_,_,_,_,_,_,_,_,_,_,_,_,_,_,_,_,_,_,_,_,_,_,_,_,_,_,_,_,_,_,_,_,_,_,_,_,_,_,_,_,_,_,_,_,_,_,_,_,_,_,_,_,rfl,xE.out.1,xE.out.2⟩) (by first | (simp[intOf];done) | (simp[intOf];omega))
  ·refine⟨_,rfl,?_⟩;have H:=BP AV hg;obtain⟨A,c,rfl,_⟩:=AV.row;rw[HN.out]at H ⊢;have n1:¬ (16384:Int)<(n:Int):=(by omega);clear AV hg;go_wp2_with fail;go_ret2;exact⟨_,rfl,H.out⟩
theorem lC (l:List UInt8) (hl:∀ c∈l,c.toNat<97) (hlen:l.length<=1000) (w:Pa) :
  Pc A_ 53 #[str l] w λ e w'=>e=.returned (str l)/\Ac w w':=by
 obtain⟨cap,w1,Gf,GI,BV,_,Fq⟩:=IW w l
 obtain⟨L,hL⟩:=zn (l.length)
 have OS:∀ W,Ac w1 W->(convert 97 9 (.slice (some ⟨w.heap.size,0,none⟩) L cap)).run A_ W=.ok (str l) W:=λ W g=>by
  have:=run_convert_bytes_back (P:=A_) W 97 9 5 ⟨w.heap.size,0,none⟩ cap l N_ O_ C_ (λ j hj=>by
   have:=Fq j l[j] (zq hj);have e:(⟨w.heap.size,0,none⟩:Pd).add j=⟨w.heap.size,j,none⟩:=by unfold Addr.add;split<;>simp_all
   rw[e];exact g.cell this)
  rw[hL]at this;exact this
 have hbk:=OS w1 (zr _ _)
 rw[hL]at Gf hlen
 have HB:=zh Fq
 have HL:=zh hL
 have HG:=zh GI
 have HH:=zh hl
 clear Fq hL GI hl OS BV
 go_enter Tryz.func53,Tryz.ntmps53
 go_wp2_with fail
 clear Gf
 go_loop [10] (λ i=>∃ (k:Nat),k<=L/\i=.int .i64 k) (λ i=>L-(intOf i).toNat)
 case atStart=>exact⟨0,by omega,rfl⟩
 case round =>
  obtain⟨k,hk,rfl⟩:=hrel;by_cases AH:k<L
  ·have l1:(k:Int)<(L:Int):=(by omega);have k0:(0:Int)<=(k:Int):=(by omega);obtain⟨c,hc⟩:=zx (l:=l) (i:=k) (by rw[HL.out];exact AH);have BS:=HB.out k c hc;have hd:=HH.out c (zm hc);obtain⟨d,yE⟩:∃ d:Nat,c.toNat=d:=⟨_,rfl⟩;rw[yE]at BS hd;have d1:¬ (97:Int)<=(d:Int):=(by omega);clear hc yE hd;go_wp2_with fail;go_round
   case rel=>exact⟨k+1,by omega,by go_num⟩
   case measure=>simp[intOf];omega
  ·obtain rfl:k=L:=(by omega);go_wp2_with fail;go_ret;exact⟨rfl,HG.out⟩
def Dk:List (List UInt8):=[[76,79,65,68],[66,85,73,76,68],[82,79,85,84,69],[68,73,83,84],[65,76,84],[75,83,80],[80,69,78],[83,69,84,87],[78,69,65,82],[84,79,85,82],[83,84,65,84],[68,85,77,80],[81,85,73,84]]
def zAU:List (List UInt8):=[[],[],[110,110],[110,110],[110,110,107,114,114,114],[110,110,107],[110,110,107,111,114,114,114,114],[101,119],[110,97],[],[],[],[]]
def Dd:Array Pb:=#[.string ⟨#[76,79,65,68]⟩,.string ⟨#[]⟩,.string ⟨#[66,85,73,76,68]⟩,.string ⟨#[]⟩,.string ⟨#[82,79,85,84,69]⟩,.string ⟨#[110,110]⟩,.string ⟨#[68,73,83,84]⟩,.string ⟨#[110,110]⟩,.string ⟨#[65,76,84]⟩,.string ⟨#[110,110,107,114,114,114]⟩,.string ⟨#[75,83,80]⟩,.string ⟨#[110,110,107]⟩,.string ⟨#[80,69,78]⟩,.string ⟨#[110,110,107,111,114,114,114,114]⟩,.string ⟨#[83,69,84,87]⟩,.string ⟨#[101,119]⟩,.string ⟨#[78,69,65,82]⟩,.string ⟨#[110,97]⟩,.string ⟨#[84,79,85,82]⟩,.string ⟨#[]⟩,.string ⟨#[83,84,65,84]⟩,.string ⟨#[]⟩,.string ⟨#[68,85,77,80]⟩,.string ⟨#[]⟩,.string ⟨#[81,85,73,84]⟩,.string ⟨#[]⟩]
def ru:Array Pb:=#[.string ⟨#[]⟩,.string ⟨#[]⟩,.string ⟨#[]⟩,.string ⟨#[]⟩,.string ⟨#[]⟩,.string ⟨#[]⟩,.string ⟨#[]⟩,.string ⟨#[]⟩,.string ⟨#[]⟩,.string ⟨#[]⟩,.string ⟨#[]⟩,.string ⟨#[]⟩,.string ⟨#[]⟩,.string ⟨#[]⟩,.string ⟨#[]⟩,.string ⟨#[]⟩,.string ⟨#[]⟩,.string ⟨#[]⟩,.string ⟨#[]⟩,.string ⟨#[]⟩,.string ⟨#[]⟩,.string ⟨#[]⟩,.string ⟨#[]⟩,.string ⟨#[]⟩,.string ⟨#[]⟩,.string ⟨#[]⟩]
def Cn:Pb:=.agg Dd
theorem Ml (w:Pa):Pc A_ 88 #[] w λ e w'=>e=.returned Cn/\Ac w w':=by
 go_enter Tryz.func88,Tryz.ntmps88;go_upto_region 1 with fail;obtain⟨W0,EH⟩:=zn (w.alloc (.cells #[.string ⟨#[]⟩,.string ⟨#[]⟩,.string ⟨#[]⟩,.string ⟨#[]⟩,.string ⟨#[]⟩,.string ⟨#[]⟩,.string ⟨#[]⟩,.string ⟨#[]⟩,.string ⟨#[]⟩,.string ⟨#[]⟩,.string ⟨#[]⟩,.string ⟨#[]⟩,.string ⟨#[]⟩,.string ⟨#[]⟩,.string ⟨#[]⟩,.string ⟨#[]⟩,.string ⟨#[]⟩,.string ⟨#[]⟩,.string ⟨#[]⟩,.string ⟨#[]⟩,.string ⟨#[]⟩,.string ⟨#[]⟩,.string ⟨#[]⟩,.string ⟨#[]⟩,.string ⟨#[]⟩,.string ⟨#[]⟩] 156));rw[EH];have hb:Am W0 w.heap.size 156 ru:=by rw[<- EH];exact zv _ _ _
 have g0:Ac w W0:=by rw[<- EH];exact(zr _ w).alloc _
 clear EH;apply wp_region_lit;refine wpList_buildTo rfl 155 _ rfl (some 1) rfl #[.string ⟨#[76,79,65,68]⟩,.string ⟨#[]⟩] (by as_aux_lemma=>kernel_rfl) ?_;refine wpList_buildTo rfl 155 _ rfl (some 2) rfl #[.string ⟨#[66,85,73,76,68]⟩,.string ⟨#[]⟩] (by as_aux_lemma=>kernel_rfl) ?_;refine wpList_buildTo rfl 155 _ rfl (some 3) rfl #[.string ⟨#[82,79,85,84,69]⟩,.string ⟨#[110,110]⟩] (by as_aux_lemma=>kernel_rfl) ?_;refine wpList_buildTo rfl 155 _ rfl (some 4) rfl #[.string ⟨#[68,73,83,84]⟩,.string ⟨#[110,110]⟩] (by as_aux_lemma=>kernel_rfl) ?_;refine wpList_buildTo rfl 155 _ rfl (some 5) rfl #[.string ⟨#[65,76,84]⟩,.string ⟨#[110,110,107,114,114,114]⟩] (by as_aux_lemma=>kernel_rfl) ?_;refine wpList_buildTo rfl 155 _ rfl (some 6) rfl #[.string ⟨#[75,83,80]⟩,.string ⟨#[110,110,107]⟩] (by as_aux_lemma=>kernel_rfl) ?_;refine wpList_buildTo rfl 155 _ rfl (some 7) rfl #[.string ⟨#[80,69,78]⟩,.string ⟨#[110,110,107,111,114,114,114,114]⟩] (by as_aux_lemma=>kernel_rfl) ?_;refine wpList_buildTo rfl 155 _ rfl (some 8) rfl #[.string ⟨#[83,69,84,87]⟩,.string ⟨#[101,119]⟩] (by as_aux_lemma=>kernel_rfl) ?_;refine wpList_buildTo rfl 155 _ rfl (some 9) rfl #[.string ⟨#[78,69,65,82]⟩,.string ⟨#[110,97]⟩] (by as_aux_lemma=>kernel_rfl) ?_;refine wpList_buildTo rfl 155 _ rfl (some 10) rfl #[.string ⟨#[84,79,85,82]⟩,.string ⟨#[]⟩] (by as_aux_lemma=>kernel_rfl) ?_;refine wpList_buildTo rfl 155 _ rfl (some 11) rfl #[.string ⟨#[83,84,65,84]⟩,.string ⟨#[]⟩] (by as_aux_lemma=>kernel_rfl) ?_;refine wpList_buildTo rfl 155 _ rfl (some 12) rfl #[.string ⟨#[68,85,77,80]⟩,.string ⟨#[]⟩] (by as_aux_lemma=>kernel_rfl) ?_;refine wpList_buildTo rfl 155 _ rfl (some 13) rfl #[.string ⟨#[81,85,73,84]⟩,.string ⟨#[]⟩] (by as_aux_lemma=>kernel_rfl) ?_;refine wpList_buildTo rfl 156 _ rfl (some 14) rfl Dd (by as_aux_lemma=>kernel_rfl) ?_;refine wpList_store_rowTo rfl 156 (.tmp 0) (.tmp 14) rfl rfl w.heap.size Dd (by as_aux_lemma=>kernel_rfl) (by as_aux_lemma=>kernel_rfl) 156 ru hb (by as_aux_lemma=>kernel_rfl) rfl (AF (by simp[Dd,PN])) ?_;obtain⟨W,hW⟩:=zn (W0.setRow w.heap.size Dd);have FY:Am W w.heap.size 156 Dd:=by rw[<- hW];exact hb.setRow Dd
 have hg:Ac w W:=by rw[<- hW];exact g0.setRow (.inr (zl _)) _
 simp only[Act.put,List.setIfInBounds_toArray,List.set_cons_zero,List.set_cons_succ];rw[hW];have HL:=zh (run_loadVar_row (P:=A_) W w.heap.size 156 156 Dd (0,0) _ FY Tryz.underlying156 rfl (by kernel_rfl));have HG:=zh hg;clear hb FY hg hW;go_wp2_with fail;exact zy (v:=Cn) (NI (g:=⟨w.heap.size,0,none⟩) Tryz.results88 rfl HL.out) rfl ⟨rfl,HG.out⟩
def Af (k:Nat):List UInt8:=Dk.getD k []
def Ct (k:Nat):List UInt8:=zAU.getD k []
theorem zAK (W:Pa):(Pj 156 Cn (.int .i64 0)).run A_ W=.ok (.agg #[str (Af 0),str (Ct 0)]) W:=by kernel_rfl
theorem zAL (W:Pa):(Pj 156 Cn (.int .i64 1)).run A_ W=.ok (.agg #[str (Af 1),str (Ct 1)]) W:=by kernel_rfl
theorem zAM (W:Pa):(Pj 156 Cn (.int .i64 2)).run A_ W=.ok (.agg #[str (Af 2),str (Ct 2)]) W:=by kernel_rfl
theorem zAN (W:Pa):(Pj 156 Cn (.int .i64 3)).run A_ W=.ok (.agg #[str (Af 3),str (Ct 3)]) W:=by kernel_rfl
theorem zAO (W:Pa):(Pj 156 Cn (.int .i64 4)).run A_ W=.ok (.agg #[str (Af 4),str (Ct 4)]) W:=by kernel_rfl
theorem zAP (W:Pa):(Pj 156 Cn (.int .i64 5)).run A_ W=.ok (.agg #[str (Af 5),str (Ct 5)]) W:=by kernel_rfl
theorem zAQ (W:Pa):(Pj 156 Cn (.int .i64 6)).run A_ W=.ok (.agg #[str (Af 6),str (Ct 6)]) W:=by kernel_rfl
theorem zAR (W:Pa):(Pj 156 Cn (.int .i64 7)).run A_ W=.ok (.agg #[str (Af 7),str (Ct 7)]) W:=by kernel_rfl
theorem zAS (W:Pa):(Pj 156 Cn (.int .i64 8)).run A_ W=.ok (.agg #[str (Af 8),str (Ct 8)]) W:=by kernel_rfl
theorem zAT (W:Pa):(Pj 156 Cn (.int .i64 9)).run A_ W=.ok (.agg #[str (Af 9),str (Ct 9)]) W:=by kernel_rfl
theorem zM (W:Pa):(Pj 156 Cn (.int .i64 10)).run A_ W=.ok (.agg #[str (Af 10),str (Ct 10)]) W:=by kernel_rfl
theorem zN (W:Pa):(Pj 156 Cn (.int .i64 11)).run A_ W=.ok (.agg #[str (Af 11),str (Ct 11)]) W:=by kernel_rfl
theorem zO (W:Pa):(Pj 156 Cn (.int .i64 12)).run A_ W=.ok (.agg #[str (Af 12),str (Ct 12)]) W:=by kernel_rfl
theorem pc (k:Nat) (hk:k<13) (W:Pa):(Pj 156 Cn (.int .i64 (k:Int))).run A_ W=.ok (.agg #[str (Af k),str (Ct k)]) W:=by
 match k,hk with
 | 0,_=>exact zAK W
 | 1,_=>exact zAL W
 | 2,_=>exact zAM W
 | 3,_=>exact zAN W
 | 4,_=>exact zAO W
 | 5,_=>exact zAP W
 | 6,_=>exact zAQ W
 | 7,_=>exact zAR W
 | 8,_=>exact zAS W
 | 9,_=>exact zAT W
 | 10,_=>exact zM W
 | 11,_=>exact zN W
 | 12,_=>exact zO W
theorem jR:(A_.info? 9).map (λ i=>(i.zero,i.size,i.bytes))=some (some (.string ⟨#[]⟩),1,16):=by kernel_rfl
theorem ko (w:Pa):Pc A_ 55 #[] w λ e w'=>∃ v,e=.returned v/\BD w' w.heap.size v Dk/\Ac w w':=by
 obtain⟨i0,hi,Cu,BV,Cj⟩:=info_parts jR;have HF:=zh Ml;obtain⟨V,hV⟩:=zn (Cn);have HI:=zh pc;rw[hV]at HI HF;clear hV;go_enter Tryz.func55,Tryz.ntmps55;go_wp2_with fail;refine(HF.out _).mono ?_;rintro e w1 ⟨rfl,k1⟩;go_wp2_with fail;go_loopw [0,4] (λ v i wr=>∃ (k:Nat) (A2:Option Pd) (c2:Nat),k<=13/\i=.int .i64 k/\v=.slice A2 k c2/\PD (BD wr w.heap.size (.slice A2 k c2) (Dk.take k)/\Ac w wr)) (λ v i _=>13-(intOf i).toNat)
 case atStart=>exact⟨0,none,0,by omega,rfl,rfl,Ph _ _ _ _,k1⟩
 case round =>
  clear k1;obtain⟨k,A2,c2,hk,rfl,rfl,hS⟩:=hrel;by_cases AH:k<13
  ·have yK:=λ W=>HI.out k AH W;have l1:(k:Int)<13:=(by omega);have Eh:(Dk.take k).length=k:=by rw[Pr];show min k 13=k;omega
   have DZ:=hS.out.1;unfold BD at DZ;rw[Eh]at DZ;have hT:PD (Dk.take (k+1)=Dk.take k++[Af k]/\(Dk.take (k+1)).length=k+1):=by
    refine⟨?_,by rw[Pr];show min (k+1) 13=k+1;omega⟩
    rw[Po,zq (show k<Dk.length from AH)]
    unfold Af
    rw[Pu,zq (show k<Dk.length from AH)]
    rfl
   obtain⟨nk,hnk⟩:=zn (Af k);obtain⟨kk,JI⟩:=zn (Ct k);rw[hnk]at hT;simp only[hnk,JI]at yK;have gA:Ac wr ((wr.alloc (.cells #[str nk,str kk] 155)).alloc (.cells #[str nk] 9)):=((zr _ _).alloc _).alloc _;have own1:PD (((wr.alloc (.cells #[str nk,str kk] 155)).alloc (.cells #[str nk] 9)).ownsRow w.heap.size 9 1 (.slice A2 k c2) k ((Dk.take k).map str)):=Ac.own gA DZ;have hN:PD (∀ r u,[str nk][r]? = some u->((wr.alloc (.cells #[str nk,str kk] 155)).alloc (.cells #[str nk] 9)).cell? ((⟨wr.heap.size+1,0,none⟩:Pd).add r)=some u):=by
    have:=Pg (heap_alloc_new (wr.alloc (.cells #[str nk,str kk] 155)) (.cells #[str nk] 9))
    rw[Pf]at this
    exact this
   have Df:PD (w.heap.size<=wr.heap.size):=hS.out.2.size;have hlo:PD (∀ j,(PM A2 k c2).ownBlock=some j->w.heap.size<=j):=λ j hj=>(DZ.lt j hj).1;have HK:=zh hS.out.2;have HGA:=zh gA;clear DZ Eh hnk JI hS gA;go_wp2_with
    (at_builtin
     refine wpList_append_lies _ rfl (.tmp 7) (.tmp 10) 40 (by rfl) w.heap.size 9 i0 (.string ⟨#[]⟩) 1 16 B_ hi Cu BV Cj (by rfl) (by omega) (.slice A2 k c2) k ((Dk.take k).map str) (by rfl) own1.out ⟨wr.heap.size+1,0,none⟩ 1 1 [str nk] (by rfl) (by rfl) hN.out (by intro u hu;simp at hu;subst hu;rfl) (by omega) (by unfold maxLen;omega) (by omega) (by have:=Df.out;simp;omega) _ rfl ?_
     intro g cp wa Bb AD _ _
     have HF2:PD (BD wa w.heap.size (.slice (some ⟨g,0,none⟩) (k+1) cp) (Dk.take (k+1))/\Ac w wa):=by
      refine⟨?_,?_⟩
      ·unfold BD;rw[hT.out.2,hT.out.1,Ps];exact Bb
      ·have kA:Kept (λ j=>(PM A2 k c2).ownBlock=some j) wr wa:=(Ac.kept HGA.out).grown AD (λ k hk=>.inl hk);exact HK.out.then kA (λ i hi h=>by have:=hlo.out i h;omega)
     clear Bb AD)
   clear own1 hN Df hlo HK HGA yK;go_wp2_with fail;go_roundw
   case rel=>exact⟨k+1,_,_,by omega,by go_num,rfl,HF2⟩
   case measure=>simp[intOf];omega
  ·obtain rfl:k=13:=(by omega);go_wp2_with fail;go_ret;exact⟨_,rfl,hS.out⟩
theorem jL (A:Option Pd) (c i:Nat) (ls:List (List UInt8)) (x:List UInt8) (w:Pa) (h:CU w A ls) (hl:ls.length<=100000) (hx:ls[i]? = some x) (Cx:∀ j,j<i->ls[j]? ≠ some x) :
  Pc A_ 87 #[.slice A ls.length c,str x] w λ e w'=>e=.returned (i64 i)/\w=w':=by
 obtain⟨L,hL⟩:=zn (ls.length)
 have hiL:i<L:=by rw[<- hL];exact get_lt hx
 have HL:=zh hL
 have HX:=BP hx Cx
 have HT:=zh h
 rw[hL]at hl ⊢
 clear h hL hx Cx
 go_enter Tryz.func87,Tryz.ntmps87
 go_wp2_with fail
 go_loop [8] (λ j=>∃ k:Nat,k<=i/\j=.int .i64 k) (λ j=>L-(intOf j).toNat)
 case atStart=>exact⟨0,by omega,rfl⟩
 case round =>
  obtain⟨k,hk,rfl⟩:=hrel;have l1:(k:Int)<(L:Int):=(by omega);have k0:(0:Int)<=(k:Int):=(by omega);obtain⟨y,hy⟩:=zx (l:=ls) (i:=k) (by rw[HL.out];omega);obtain⟨b,off,hA,hb,hc⟩:=HT.out k y hy;subst hA;by_cases DX:k=i
  ·subst DX;obtain rfl:x=y:=by have:=HX.out.1;rw[hy]at this;exact(Option.some.inj this).symm
   have e1:((bs x).toList==(bs x).toList)=true:=beq_self_eq_true _;clear hy hb;go_wp2_with fail;go_ret;exact⟨rfl,rfl⟩
  ·have Bm:x≠y:=λ e=>HX.out.2 k (by omega) (by rw[hy,e]);have e1:((bs x).toList==(bs y).toList)=false:=by rw[Al,Al];exact beq_eq_false_iff_ne.2 Bm
   clear hy hb Bm;go_wp2_with fail;go_round
   case rel=>exact⟨k+1,by omega,by go_num⟩
   case measure=>simp[intOf];omega
theorem M7 (A:Option Pd) (c i:Nat) (ls:List (List UInt8)) (x:List UInt8) (w:Pa) (h:CU w A ls) (hl:ls.length<=100000) (hx:ls[i]? = some x) (Cx:∀ j,j<i->ls[j]? ≠ some x) :
  Pc A_ 54 #[.slice A ls.length c,str x] w λ e w'=>e=.returned (.bool true)/\w=w':=by
 have HC:=zh (jL A c i ls x w h hl hx Cx)
 have i0:(0:Int)<=(i:Int):=by omega
 clear h hl hx Cx
 go_enter Tryz.func54,Tryz.ntmps54
 go_wp2_with fail
 refine HC.out.mono ?_
 rintro e w' ⟨rfl,rfl⟩
 go_wp2_with fail
 go_ret
 exact⟨by simp,rfl⟩
theorem MI (a b x:List UInt8) (N:Nat) (t:Bool) (w:Pa) (hN:Am w N 9 #[str x]) (ht:((bs a).toList==(bs x).toList)=t) :
  Pc A_ 131 #[.agg #[str a,str b],pt N] w λ e w'=>e=.returned (.bool t)/\Ac w w':=by
 have k1:Ac w (w.alloc (.cells #[str a,str b] 155)):=(zr _ _).alloc _
 have c1:=(hN.grew k1).cell 0
 simp at c1
 go_enter Tryz.func131,Tryz.ntmps131
 go_wp2_with fail
 go_ret
 exact⟨rfl,k1⟩
def Es (w:Pa) (g:Nat):Prop:=∀ k,k<13->w.cell? ⟨g,k*2,none⟩=some (str (Af k))/\w.cell? ⟨g,k*2+1,none⟩=some (str (Ct k))
theorem Es.grew {w w':Pa} {g:Nat} (h:Es w g) (k:Ac w w'):Es w' g:=λ i hi=>⟨k.cell (h i hi).1,k.cell (h i hi).2⟩
theorem Es.of {w:Pa} {g:Nat} (h:Am w g 156 Dd):Es w g:=λ k hk=>by
 rw[h.cell,h.cell];match k,hk with
 | 0,_=>exact⟨rfl,rfl⟩
 | 1,_=>exact⟨rfl,rfl⟩
 | 2,_=>exact⟨rfl,rfl⟩
 | 3,_=>exact⟨rfl,rfl⟩
 | 4,_=>exact⟨rfl,rfl⟩
 | 5,_=>exact⟨rfl,rfl⟩
 | 6,_=>exact⟨rfl,rfl⟩
 | 7,_=>exact⟨rfl,rfl⟩
 | 8,_=>exact⟨rfl,rfl⟩
 | 9,_=>exact⟨rfl,rfl⟩
 | 10,_=>exact⟨rfl,rfl⟩
 | 11,_=>exact⟨rfl,rfl⟩
 | 12,_=>exact⟨rfl,rfl⟩
theorem EP {i j:Nat} (hi:i<13) (hj:j<13) (h:Af i=Af j):i=j:=by
 have:∀ a b:Fin 13,Af a=Af b->a=b:=(by decide);have:=this ⟨i,hi⟩ ⟨j,hj⟩ h;exact congrArg Fin.val this
theorem dY (g N i:Nat) (w:Pa) (hi:i<13) (h:Es w g) (hN:Am w N 9 #[str (Af i)]) :
  Pc A_ 130 #[.slice (some ⟨g,0,none⟩) 13 13,.func (.func 131) #[] #[pt N]] w λ e w'=>e=.returned (i64 i)/\Ac w w':=by
 have HF:=zh h
 have HN:=zh hN
 clear h hN
 go_enter Tryz.func130,Tryz.ntmps130
 go_wp2_with fail
 go_loopw [8] (λ j wr=>∃ k:Nat,k<=i/\j=.int .i64 k/\PD (Ac w wr)) (λ j _=>13-(intOf j).toNat)
 case atStart=>exact⟨0,by omega,rfl,zr _ _⟩
 case round =>
  obtain⟨k,hk,rfl,hG⟩:=hrel;have l1:(k:Int)<13:=(by omega);have k0:(0:Int)<=(k:Int):=(by omega);obtain⟨c0,c1⟩:=(HF.out.grew hG.out) k (by omega);obtain⟨a,ha⟩:=zn (Af k);obtain⟨b,hb⟩:=zn (Ct k);rw[ha]at c0;rw[hb]at c1;by_cases DX:k=i
  ·subst DX;have HS:=zh (MI a b (Af k) N true wr (HN.out.grew hG.out) (by rw[ha];exact beq_self_eq_true _));clear ha hb;go_wp2_with fail;refine HS.out.mono ?_;rintro e w1 ⟨rfl,g1⟩;have HG:=zh (hG.out.trans g1);clear HS g1;go_wp2_with fail;go_ret;exact⟨rfl,HG.out⟩
  ·have HS:=zh (MI a b (Af i) N false wr (HN.out.grew hG.out) (by rw[Al,Al,<-ha];exact beq_eq_false_iff_ne.2 (λ e=>DX (EP (by omega) hi e))));clear ha hb;go_wp2_with fail;refine HS.out.mono ?_;rintro e w1 ⟨rfl,g1⟩;have HG:=zh (hG.out.trans g1);clear HS g1;go_wp2_with fail;go_roundw
   case rel=>exact⟨k+1,by omega,by go_num,HG⟩
   case measure=>simp[intOf];omega
theorem Ea (i m:Nat) (t:Bool) (w:Pa) (hi:i<13) (h9:i≠9) (ht:((Ct i).length==m)=t) :
  Pc A_ 91 #[str (Af i),i64 m] w λ e w'=>e=.returned (.tuple #[str (Ct i),.bool t])/\Ac w w':=by
 have e9:((bs (Af i)).toList==[84,79,85,82])=false:=by
  rw[Al];exact beq_eq_false_iff_ne.2 (λ e=>h9 (EP hi (by decide) (e.trans (show [84,79,85,82]=Af 9 from rfl))))
 have HF:=zh Ml
 have tt:PD (∀ W g,Am W g 156 Dd->Es W g):=λ W g h=>Es.of h
 have hall:PD (Dd.all (·.oneCell')=true/\Dd.size=26):=⟨AF (by simp[Dd,PN]),rfl⟩
 unfold Cn at HF
 obtain⟨C,hC⟩:=zn (Dd)
 rw[hC]at HF tt hall
 clear hC
 obtain⟨nm,Cw⟩:=zn (Af i)
 obtain⟨kd,OU⟩:=zn (Ct i)
 rw[Cw]at e9 ⊢
 rw[OU]at ht ⊢
 have HNM:=zh Cw
 have HKD:=zh OU
 clear Cw OU
 have Kn:(((bs kd).size:Int)==(m:Int))=t:=by
  rw[AT,<-ht];rcases Nat.decEq kd.length m with h | h
  ·rw[beq_eq_false_iff_ne.2 h];exact beq_eq_false_iff_ne.2 (by omega)
  ·rw[h,beq_self_eq_true,beq_self_eq_true]
 go_enter Tryz.func91,Tryz.ntmps91
 go_wp2_with fail
 refine(HF.out _).mono ?_
 rintro e w1 ⟨rfl,k1⟩
 have bN:=(zv w 9 #[str nm]).grew k1
 have g0:Ac w w1:=((zr _ w).alloc _).trans k1
 have hb:Am (w1.alloc (.cells #[.string ⟨#[]⟩,.string ⟨#[]⟩,.string ⟨#[]⟩,.string ⟨#[]⟩,.string ⟨#[]⟩,.string ⟨#[]⟩,.string ⟨#[]⟩,.string ⟨#[]⟩,.string ⟨#[]⟩,.string ⟨#[]⟩,.string ⟨#[]⟩,.string ⟨#[]⟩,.string ⟨#[]⟩,.string ⟨#[]⟩,.string ⟨#[]⟩,.string ⟨#[]⟩,.string ⟨#[]⟩,.string ⟨#[]⟩,.string ⟨#[]⟩,.string ⟨#[]⟩,.string ⟨#[]⟩,.string ⟨#[]⟩,.string ⟨#[]⟩,.string ⟨#[]⟩,.string ⟨#[]⟩,.string ⟨#[]⟩] 156)) w1.heap.size 156 #[.string ⟨#[]⟩,.string ⟨#[]⟩,.string ⟨#[]⟩,.string ⟨#[]⟩,.string ⟨#[]⟩,.string ⟨#[]⟩,.string ⟨#[]⟩,.string ⟨#[]⟩,.string ⟨#[]⟩,.string ⟨#[]⟩,.string ⟨#[]⟩,.string ⟨#[]⟩,.string ⟨#[]⟩,.string ⟨#[]⟩,.string ⟨#[]⟩,.string ⟨#[]⟩,.string ⟨#[]⟩,.string ⟨#[]⟩,.string ⟨#[]⟩,.string ⟨#[]⟩,.string ⟨#[]⟩,.string ⟨#[]⟩,.string ⟨#[]⟩,.string ⟨#[]⟩,.string ⟨#[]⟩,.string ⟨#[]⟩]:=zv _ _ _
 go_wp2_with (refine wpList_store_rowTo rfl 156 (.tmp 6) (.tmp 19) rfl rfl w1.heap.size C (by as_aux_lemma=>rfl) (by as_aux_lemma=>rfl) 156 _ hb (by rw[hall.out.2];kernel_rfl) (by rw[hall.out.2];rfl) hall.out.1 ?_)
 have bF:=hb.setRow C
 have bN2:=(bN.alloc (.cells #[.string ⟨#[]⟩,.string ⟨#[]⟩,.string ⟨#[]⟩,.string ⟨#[]⟩,.string ⟨#[]⟩,.string ⟨#[]⟩,.string ⟨#[]⟩,.string ⟨#[]⟩,.string ⟨#[]⟩,.string ⟨#[]⟩,.string ⟨#[]⟩,.string ⟨#[]⟩,.string ⟨#[]⟩,.string ⟨#[]⟩,.string ⟨#[]⟩,.string ⟨#[]⟩,.string ⟨#[]⟩,.string ⟨#[]⟩,.string ⟨#[]⟩,.string ⟨#[]⟩,.string ⟨#[]⟩,.string ⟨#[]⟩,.string ⟨#[]⟩,.string ⟨#[]⟩,.string ⟨#[]⟩,.string ⟨#[]⟩] 156)).farRow (by have:=bN.lt;omega) (g:=w1.heap.size) C
 have gW:Ac w ((w1.alloc (.cells #[.string ⟨#[]⟩,.string ⟨#[]⟩,.string ⟨#[]⟩,.string ⟨#[]⟩,.string ⟨#[]⟩,.string ⟨#[]⟩,.string ⟨#[]⟩,.string ⟨#[]⟩,.string ⟨#[]⟩,.string ⟨#[]⟩,.string ⟨#[]⟩,.string ⟨#[]⟩,.string ⟨#[]⟩,.string ⟨#[]⟩,.string ⟨#[]⟩,.string ⟨#[]⟩,.string ⟨#[]⟩,.string ⟨#[]⟩,.string ⟨#[]⟩,.string ⟨#[]⟩,.string ⟨#[]⟩,.string ⟨#[]⟩,.string ⟨#[]⟩,.string ⟨#[]⟩,.string ⟨#[]⟩,.string ⟨#[]⟩] 156)).setRow w1.heap.size C):=(g0.alloc _).setRow (.inr g0.size) _
 obtain⟨W,hW⟩:=zn ((w1.alloc (.cells #[.string ⟨#[]⟩,.string ⟨#[]⟩,.string ⟨#[]⟩,.string ⟨#[]⟩,.string ⟨#[]⟩,.string ⟨#[]⟩,.string ⟨#[]⟩,.string ⟨#[]⟩,.string ⟨#[]⟩,.string ⟨#[]⟩,.string ⟨#[]⟩,.string ⟨#[]⟩,.string ⟨#[]⟩,.string ⟨#[]⟩,.string ⟨#[]⟩,.string ⟨#[]⟩,.string ⟨#[]⟩,.string ⟨#[]⟩,.string ⟨#[]⟩,.string ⟨#[]⟩,.string ⟨#[]⟩,.string ⟨#[]⟩,.string ⟨#[]⟩,.string ⟨#[]⟩,.string ⟨#[]⟩,.string ⟨#[]⟩] 156)).setRow w1.heap.size C)
 rw[hW]at bF bN2 gW ⊢
 obtain⟨G,hG⟩:=zn (w1.heap.size)
 rw[hG]at bF ⊢
 have HFA:=zh (tt.out _ _ bF)
 have HI:=zh (dY G w.heap.size i W hi HFA.out (by rw[HNM.out];exact bN2))
 have HGW:=zh gW
 clear bF bN2 gW hW hb bN g0 k1 hG hall tt HF e9
 refine HI.out.mono ?_
 rintro e w2 ⟨rfl,k2⟩
 obtain⟨c0,c1⟩:=(HFA.out.grew k2) i hi
 rw[HKD.out]at c1
 have HG2:=zh (HGW.out.trans k2)
 have l1:(i:Int)<13:=by omega
 have i0:(0:Int)<=(i:Int):=by omega
 clear HI k2 c0 ht HFA HGW
 go_wp2_with fail
 refine rG [] (λ _=>False) ?_
 refine pG 0 23 ?_
 refine pG 1 24 ?_
 refine pG 2 25 ?_
 refine tG 3 26 (y:=λ w' Ah=>by have AM:=ze Ah (show Pe w2.drew _=_ from c1);go_simp<;>with_reducible rfl) (h:=?_)
 refine pG 4 27 ?_
 refine pG 5 28 ?_
 refine pG 6 29 ?_
 refine tG 7 30 (y:=λ w' Ah=>by have AM:=ze Ah (show Pe w2.drew _=_ from c1);go_simp<;>with_reducible rfl) (h:=?_)
 refine pG 8 31 ?_
 refine pG 9 32 ?_
 refine pG 10 33 ?_
 refine pG 11 4 ?_
 refine pG 12 5 ?_
 refine dG ?_
 go_wp2_with fail
 go_ret2
 exact⟨rfl,HG2.out.drew⟩
theorem maskN (a:Nat) (ha:a<18446744073709551616):bits .and .u64 (a:Int) 4294967295=((a%4294967296:Nat):Int):=by
 have h:=bits_and_u64_nat a 4294967295 ha (by omega);have e:a &&& 4294967295=a%4294967296:=Nat.and_two_pow_sub_one_eq_mod a 32;rw[e]at h;exact h
theorem divN (a:Nat):(a:Int)/4294967296=((a/4294967296:Nat):Int):=by omega
theorem mulN (a b:Nat):(a:Int)*(b:Int)=((a*b:Nat):Int):=(Int.natCast_mul a b).symm
theorem addN (a b:Nat):(a:Int)+(b:Int)=((a+b:Nat):Int):=(Int.natCast_add a b).symm
theorem wrapN (a:Nat) (ha:a<18446744073709551616):PE.wrap (a:Int)=(a:Int):=by rw[PG];omega
theorem wrapM (a:Nat):PE.wrap (a:Int)=((a%18446744073709551616:Nat):Int):=by rw[PG];omega
theorem zAV (x y:Nat) (hx:x<18446744073709551616) (hy:y<18446744073709551616) (w:Pa) :
  Pc A_ 183 #[.int .u64 x,.int .u64 y] w λ e w'=>e=.returned (.tuple #[.int .u64 ((x*y/18446744073709551616:Nat):Int),.int .u64 ((x*y%18446744073709551616:Nat):Int)])/\w=w':=by
 obtain⟨bd,bt,bw,hhi⟩:=Lib.mul64_hi x y hx hy
 have ba:=PK (a:=x/4294967296) (b:=y/4294967296) (by omega) (by omega)
 have bb:=PK (a:=x/4294967296) (b:=y%4294967296) (by omega) (by omega)
 have bc:=PK (a:=x%4294967296) (b:=y/4294967296) (by omega) (by omega)
 have ba':x/4294967296*(y/4294967296)<18446744073709551616:=by omega
 have bb':x/4294967296*(y%4294967296)<18446744073709551616:=by omega
 have bc':x%4294967296*(y/4294967296)<18446744073709551616:=by omega
 have bh1:x/4294967296*(y/4294967296)+(x/4294967296*(y%4294967296)+x%4294967296*(y%4294967296)/4294967296)/4294967296<18446744073709551616:=by omega
 have bh:x/4294967296*(y/4294967296)+(x/4294967296*(y%4294967296)+x%4294967296*(y%4294967296)/4294967296)/4294967296+((x/4294967296*(y%4294967296)+x%4294967296*(y%4294967296)/4294967296)%4294967296+x%4294967296*(y/4294967296))/4294967296<18446744073709551616:=by
  rw[hhi];have:x*y<18446744073709551616*18446744073709551616:=Nat.mul_lt_mul'' hx hy;omega
 go_enter Tryz.func183,Tryz.ntmps183
 go_wp2
 simp only[maskN x hx,maskN y hy,divN,mulN,addN,wrapN _ bd,wrapN _ bb',wrapN _ bt,maskN _ bt,wrapN _ bc',wrapN _ bw,wrapN _ ba',wrapN _ bh1,wrapN _ bh,wrapM (x*y)]
 rw[hhi]
 go_ret2
 exact⟨rfl,rfl⟩
theorem dh {l:List UInt8} {k:Nat} {c:UInt8} (hc:l[k]? = some c):Fu (l.take (k+1))=Fu (l.take k)*10+(c.toNat-48):=by
 rw[Po,hc];exact I0 _ _
structure BI (l:List UInt8) (n:Nat):Prop where
 ne:l≠[]
 dig:∀ c∈l,48<=c.toNat/\c.toNat<=57
 head:l.head? = some 48->l=[48]
 val:Fu l=n
 len:l.length<=100000
theorem Bu {n:Nat} (h:n<18446744073709551616):BI (dec n) n:=by
 refine⟨de n,JE n,λ hh=>?_,rl n,?_⟩
 ·rcases Nat.eq_zero_or_pos n with rfl | h0
  ·exact nt
  ·obtain⟨c,l,hc,hn⟩:=ns h0;rw[hc]at hh;simp at hh;exact absurd hh hn
 ·have:=Dz (k:=19) (n:=n) (by omega);omega
theorem Du (l:List UInt8) (n:Nat) (h:BI l n) (hn:n<18446744073709551616) (w:Pa) :
  Pc A_ 134 #[str l] w λ e w'=>e=.returned (.tuple #[u64 n,i64 0])/\Ac w w':=by
 obtain⟨c0,h0⟩:∃ c,l[0]? = some c:=by
  cases l with
  | nil=>exact absurd rfl h.ne
  | cons c l=>exact⟨c,rfl⟩
 have a0:=λ W=>EF l 0 h0 W
 simp only[Int.natCast_zero]at a0
 have e0:((bs l).toList==([]:List UInt8))=false:=by rw[Al];cases l<;>simp_all
 obtain⟨b1,h1⟩:=zn (((c0.toNat:Int)==48))
 obtain⟨b2,h2⟩:=zn (((bs l).toList==[48]))
 have h12:b1=true->b2=true:=λ e=>by
  rw[<- h2,Al];have:c0=48:=by
   rw[<- h1]at e;have:=beq_iff_eq.1 e;exact UInt8.toNat_inj.1 (by show c0.toNat=48;omega)
  have hh:l.head? = some 48:=by rw[<- this,List.head?_eq_getElem?];exact h0
  rw[h.head hh];rfl
 obtain⟨cap,w1,Gf,GI,BV,_,Fq⟩:=IW w l
 obtain⟨L,hL⟩:=zn (l.length)
 have nQ:L<=100000:=by rw[<- hL];exact h.len
 rw[hL]at Gf
 have HL:=zh hL
 have HZ:=zh BV
 have HD:=zh h
 have HB:=zh Fq
 have HG:=zh GI
 have HM:=zh zAV
 have HN:=zh hn
 obtain⟨M,hM⟩:=zn (w.heap.size)
 rw[hM]at Gf
 have HW:=zh hM
 clear h h0 hL BV Fq GI hn hM
 have key:b1=false\/b1=true/\b2=true:=by
  cases b1 with
  | false=>exact .inl rfl
  | true=>exact .inr ⟨rfl,h12 rfl⟩
 clear h12
 rcases key with rfl | ⟨rfl,rfl⟩
 all_goals
  go_enter Tryz.func134,Tryz.ntmps134
  go_wp2_with fail
  clear Gf a0 e0 h1 h2
  go_loop [2,4,25] (λ x y i=>∃ (k:Nat),k<=L/\i=.int .i64 k/\x=.int .u64 ((Fu (l.take k):Nat):Int)/\y=.bool false) (λ x y i=>L-(intOf i).toNat)
  case atStart=>exact⟨0,by omega,rfl,rfl,rfl⟩
  case round =>
   obtain⟨k,hk,rfl,rfl,rfl⟩:=hrel;by_cases AH:k<L
   ·have l1:(k:Int)<(L:Int):=(by omega);have k0:(0:Int)<=(k:Int):=(by omega);obtain⟨c,hc⟩:=zx (l:=l) (i:=k) (by rw[HL.out];exact AH);have BS:=HB.out k c hc;rw[HW.out]at BS;have hdig:=HD.out.dig c (zm hc);have CW:=dh hc;have hle:Fu (l.take (k+1))<=n:=by have:=NV l (k+1);rw[HD.out.val]at this;exact this
    obtain⟨d,hd⟩:∃ d:Nat,c.toNat=d:=⟨_,rfl⟩;rw[hd]at BS hdig CW;obtain⟨v,hv⟩:=zn (Fu (l.take k));obtain⟨v1,Gk⟩:=zn (Fu (l.take (k+1)));rw[hv,Gk]at CW;rw[Gk]at hle;rw[hv];have HV1:=zh Gk;have hn:=HN.out;have d1:(48:Int)<=(d:Int):=(by omega);have d2:(d:Int)<=57:=(by omega);have HS:PD (v1=v*10+(d-48)):=CW;have tV:v*10<18446744073709551616:=(by omega);have hm:=zh (λ W=>HM.out v 10 (by omega) (by decide) W);have e1:v*10/18446744073709551616=0:=Nat.div_eq_of_lt tV;have e2:v*10%18446744073709551616=v*10:=Nat.mod_eq_of_lt tV;rw[e1,e2]at hm;obtain⟨m,JJ⟩:=zn (v*10);rw[JJ]at hm;have yq:∀ W,(callFunc 184 #[.int .u64 (m:Int),.int .u64 ((d:Int)-48),.int .u64 0]).run A_ W=.ok (.value (.tuple #[.int .u64 (v1:Int),.int .u64 0])) W:=λ W=>by
     have:=run_add64 m (d-48) 0 (by decide) W
     have e3:(((m+(d-48)+0)%18446744073709551616:Nat):Int)=(v1:Int):=by omega
     have e4:(((m+(d-48)+0)/18446744073709551616:Nat):Int)=0:=by omega
     rw[e3,e4]at this
     rw[<- this]
     congr 4
     ·simp;omega
    clear hc CW hv Gk tV e1 e2 JJ hle hn hd;go_wp2_with fail;refine(hm.out _).mono ?_;rintro e w2 ⟨rfl,rfl⟩;clear hm;go_wp2_with fail;go_round
    case rel=>exact⟨k+1,by omega,by go_num,by rw[HV1.out],rfl⟩
    case measure=>simp[intOf];omega
   ·obtain rfl:k=L:=(by omega);have F7:PD (Fu (l.take k)=n):=by
     show _=_
     rw[Pt (by rw[HL.out];exact zl _)]
     exact HD.out.val
    go_wp2_with fail;go_ret2;exact⟨by rw[F7.out];rfl,HG.out⟩
theorem gh (l:List UInt8) (n m:Nat) (h:BI l n) (hn:n<=m) (hm:m<=1000000) (w:Pa) :
  Pc A_ 128 #[str l,i64 m] w λ e w'=>e=.returned (.tuple #[i64 n,i64 0])/\Ac w w':=by
 have HP:=zh (Du l n h (by omega) w)
 have h1:¬ (m:Int)<0:=by omega
 have h2:¬ (m:Int)<(n:Int):=by omega
 have w1:PE.wrap (m:Int)=(m:Int):=PC _ (by omega)
 have w2:PF.wrap (n:Int)=(n:Int):=PB _ (by omega)
 clear h
 go_enter Tryz.func128,Tryz.ntmps128
 go_wp2_with fail
 refine HP.out.mono ?_
 rintro e w3 ⟨rfl,k1⟩
 go_wp2_with fail
 go_ret2
 exact⟨rfl,k1⟩
def iJ (w:Pa) (v:Pb) (x y f:Int):Prop:=∃ a b c,v=.func (.func 238) #[] #[pt a,pt b,pt c]/\Am w a 29 #[u64 x]/\Am w b 29 #[u64 y]/\Am w c 31 #[i64 f]
theorem iJ.kept {F:Nat->Prop} {w w':Pa} {v:Pb} {x y f:Int} (h:iJ w v x y f) (k:Kept F w w') (hF:∀ g t cs,Am w g t cs->(t=29\/t=31)->¬ F g):iJ w' v x y f:=by
 obtain⟨a,b,c,hv,h1,h2,h3⟩:=h;exact⟨a,b,c,hv,h1.kept k (hF _ _ _ h1 (.inl rfl)),h2.kept k (hF _ _ _ h2 (.inl rfl)),h3.kept k (hF _ _ _ h3 (.inr rfl))⟩
theorem iJ.grew {w w':Pa} {v:Pb} {x y f:Int} (h:iJ w v x y f) (k:Ac w w'):iJ w' v x y f:=h.kept k λ _ _ _ _ _ h=>h
theorem GZ (x y f:Int) (w:Pa):Pc A_ 175 #[u64 x,u64 y,i64 f] w λ e w'=>∃ v,e=.returned v/\iJ w' v x y f/\Ac w w':=by
 obtain⟨g,hg⟩:=zn (w.heap.size);have HG:=zh hg;have k1:Ac w (((w.alloc (.cells #[u64 x] 29)).alloc (.cells #[u64 y] 29)).alloc (.cells #[i64 f] 31)):=(((zr _ _).alloc _).alloc _).alloc _;have b1:=((zv w 29 #[u64 x]).alloc (.cells #[u64 y] 29)).alloc (.cells #[i64 f] 31);have b2:=(zv (w.alloc (.cells #[u64 x] 29)) 29 #[u64 y]).alloc (.cells #[i64 f] 31);have b3:=zv ((w.alloc (.cells #[u64 x] 29)).alloc (.cells #[u64 y] 29)) 31 #[i64 f];rw[Pf]at b2 b3;rw[Pf]at b3;have H:=DS k1 b1 b2 b3;clear k1 b1 b2 b3 hg;go_enter Tryz.func175,Tryz.ntmps175;go_wp2_with fail;go_ret;exact⟨_,rfl,⟨_,_,_,rfl,H.out.2.1,H.out.2.2.1,H.out.2.2.2⟩,H.out.1⟩
theorem ik (x y f n:Int) (a b c:Nat) (w:Pa) (h1:Am w a 29 #[u64 x]) (h2:Am w b 29 #[u64 y]) (hx:x<=n) (hy:n<=y) :
  Pc A_ 238 #[u64 n,pt a,pt b,pt c] w λ e w'=>e=.returned (i64 0)/\w=w':=by
 have c1:=h1.cell 0
 have c2:=h2.cell 0
 simp at c1 c2
 have d1:¬ n<x:=by omega
 have d2:¬ y<n:=by omega
 go_enter Tryz.func238,Tryz.ntmps238
 go_wp2_with fail
 go_ret
 exact⟨rfl,rfl⟩
theorem sX (p q r x y f n:Int) (E V:Nat) (v:Pb) (w:Pa) (hE:Am w E 65 #[i64 p,i64 q,u64 r]) (hV:Am w V 261 #[v]) (h:iJ w v x y f) (hx:x<=n) (hy:n<=y) (hp:0<=p/\p<=100000) (Bm:n≠p) :
  Pc A_ 176 #[u64 n,pt E,pt V] w λ e w'=>e=.returned (i64 0)/\w=w':=by
 obtain⟨a,b,c,rfl,h1,h2,h3⟩:=h
 have c1:=hE.cell 0
 have c2:=hV.cell 0
 simp at c1 c2
 have wp:PE.wrap p=p:=PC _ (by omega)
 have d1:(n==p)=false:=by simpa using Bm
 have HW:=zh (ik x y f n a b c w h1 h2 hx hy)
 clear hp Bm h1 h2 h3 hE hV hx hy
 go_enter Tryz.func176,Tryz.ntmps176
 go_wp2_with fail
 refine HW.out.mono ?_
 rintro e w' ⟨rfl,rfl⟩
 go_wp2_with fail
 go_ret
 exact⟨rfl,rfl⟩
theorem JO (R:Nat) (A:Option Pd) (ls:List (List UInt8)) (cap k n:Nat) (x y f:Int) (v:Pb) (w:Pa) (hR:Am w R 201 #[.slice A ls.length cap,i64 k,i64 0]) (hl:ls[k]? = some (dec n)) (hn:n<18446744073709551616) (DY:ls.length<=100000) (hT:CU w A ls) (Bg:ls.length<=cap)
  (hw:iJ w v x y f) (hx:x<=n) (hy:(n:Int)<=y) :
  Pc A_ 174 #[pt R,v] w λ e w'=>e=.returned (u64 n)/\Am w' R 201 #[.slice A ls.length cap,i64 (k+1:Nat),i64 0]/\Kept (·=R) w w':=by
 obtain⟨L,hL⟩:=zn (ls.length)
 have Kn:k<L:=by rw[<- hL];exact get_lt hl
 obtain⟨b,off,rfl,hb,hc⟩:=hT k _ hl
 rw[hL]at hR DY Bg ⊢
 have k0:(0:Int)<=(k:Int):=by omega
 have k1:(k:Int)<(L:Int):=by omega
 have k2:decide (L<=k)=false:=zf (by omega)
 have k3:(L:Int)<=(cap:Int):=by omega
 have k9:(k:Int)<=100000:=by omega
 have Mq:=hc
 obtain⟨c0,c1,c2⟩:=mu hR
 have f0:=λ i=>hR.frozen i
 have HP:=zh (λ W=>Du (dec n) n (Bu hn) hn W)
 have HB:=zh hR
 obtain⟨ga,gb,gc,rfl,h1,h2,h3⟩:=hw
 have HW:=BP h1 h2
 have HX:=BP hx hy
 clear h1 h2 h3 hx hy
 clear hL hl hn hT hR DY Bg Kn hc
 go_enter Tryz.func174,Tryz.ntmps174
 go_wp2_with fail
 refine rG [] (λ _=>False) ?_
 refine pG 0 12 ?_
 refine pG 1 13 ?_
 refine pG 2 14 ?_
 refine tG 3 15 (y:=λ w' Ah=>by have AM:=ze Ah (show Pe w.drew _=_ from c0);have AX:=ze Ah (show Pe w.drew _=_ from c1);go_simp<;>with_reducible rfl) (h:=?_)
 refine pG 4 16 ?_
 refine pG 5 17 ?_
 refine pG 6 18 ?_
 refine tG 7 19 (y:=λ w' Ah=>by have AM:=ze Ah (show Pe w.drew _=_ from c0);have AX:=ze Ah (show Pe w.drew _=_ from c1);go_simp<;>with_reducible rfl) (h:=?_)
 refine pG 8 20 ?_
 refine pG 9 21 ?_
 refine dG ?_
 go_wp2_with fail
 refine rG [] (λ _=>False) ?_
 refine pG 0 26 ?_
 refine pG 1 27 ?_
 refine pG 2 28 ?_
 refine tG 3 29 (y:=λ w' Ah=>by have AM:=ze Ah (show Pe w.drew.drew _=_ from c0);have AX:=ze Ah (show Pe w.drew.drew _=_ from c1);have CN:=ze Ah (show Pe w.drew.drew _=_ from Mq);go_simp<;>with_reducible rfl) (h:=?_)
 refine pG 4 30 ?_
 refine pG 5 31 ?_
 refine pG 6 32 ?_
 refine tG 7 33 (y:=λ w' Ah=>by have AM:=ze Ah (show Pe w.drew.drew _=_ from c0);have AX:=ze Ah (show Pe w.drew.drew _=_ from c1);have CN:=ze Ah (show Pe w.drew.drew _=_ from Mq);go_simp<;>with_reducible rfl) (h:=?_)
 refine pG 8 34 ?_
 refine tG 9 35 (y:=λ w' Ah=>by have AM:=ze Ah (show Pe w.drew.drew _=_ from c0);have AX:=ze Ah (show Pe w.drew.drew _=_ from c1);have CN:=ze Ah (show Pe w.drew.drew _=_ from Mq);go_simp<;>with_reducible rfl) (h:=?_)
 refine sG 10 36 (λ K Aj=>?_)
 go_simp
 refine(HP.out _).mono ?_
 rintro e w3 ⟨rfl,kS⟩
 show K _ _
 refine Aj (.tuple #[u64 n,i64 0]) _ (λ _=>kS) ?_
 clear Aj
 simp only[sA]
 refine pG 11 25 ?_
 refine pG 12 37 ?_
 refine pG 13 38 ?_
 refine pG 14 5 ?_
 refine pG 15 6 ?_
 refine dG ?_
 replace kS:=kS.undrew2
 go_wp2_with fail
 refine(ik x y f n ga gb gc _ (HW.out.1.grew kS) (HW.out.2.grew kS) HX.out.1 HX.out.2).mono ?_
 rintro e w4 ⟨rfl,rfl⟩
 have dB:=HB.out.grew kS
 have f3:=dB.frozen 2
 have d0:=dB.cell 0
 have d1:=dB.cell 1
 have f1:=dB.frozen 1
 have d2:=dB.cell 2
 simp at d0 d1 d2
 have F7:PD (Am (((w3.setCell ⟨R,2,none⟩ (i64 0)).setCell ⟨R,1,none⟩ (i64 (k+1:Nat)))) R 201 #[.slice (some ⟨b,off,none⟩) L cap,i64 (k+1:Nat),i64 0]/\Kept (·=R) w ((w3.setCell ⟨R,2,none⟩ (i64 0)).setCell ⟨R,1,none⟩ (i64 (k+1:Nat)))) :=
  ⟨by have:=(dB.set 2 (i64 0)).set 1 (i64 (k+1:Nat));simpa using this,((Ac.kept (F:=(·=R)) kS).setCell (p:=⟨R,2,none⟩) (.inl rfl) _).setCell (p:=⟨R,1,none⟩) (.inl rfl) _⟩
 clear HB kS dB
 go_wp2_with fail
 go_ret
 have e:((k+1:Nat):Int)=(k:Int)+1:=by omega
 have hf:=F7.out
 rw[e]at hf ⊢
 exact⟨rfl,hf⟩
theorem pI (R:Nat) (A:Option Pd) (ls:List (List UInt8)) (cap k n:Nat) (p q r x y f:Int) (E V:Nat) (v:Pb) (w:Pa) (hR:Am w R 201 #[.slice A ls.length cap,i64 k,i64 0]) (hl:ls[k]? = some (dec n)) (hn:n<18446744073709551616) (DY:ls.length<=100000) (hT:CU w A ls) (Bg:ls.length<=cap)
  (hE:Am w E 65 #[i64 p,i64 q,u64 r]) (hV:Am w V 261 #[v]) (hw:iJ w v x y f) (hx:x<=n) (hy:(n:Int)<=y) (hp:0<=p/\p<=100000) (Bm:(n:Int)≠p) :
  Pc A_ 174 #[pt R,.func (.func 176) #[] #[pt E,pt V]] w λ e w'=>e=.returned (u64 n)/\Am w' R 201 #[.slice A ls.length cap,i64 (k+1:Nat),i64 0]/\Kept (·=R) w w':=by
 obtain⟨L,hL⟩:=zn (ls.length)
 have Kn:k<L:=by rw[<- hL];exact get_lt hl
 obtain⟨b,off,rfl,hb,hc⟩:=hT k _ hl
 rw[hL]at hR DY Bg ⊢
 have k0:(0:Int)<=(k:Int):=by omega
 have k1:(k:Int)<(L:Int):=by omega
 have k2:decide (L<=k)=false:=zf (by omega)
 have k3:(L:Int)<=(cap:Int):=by omega
 have k9:(k:Int)<=100000:=by omega
 have Mq:=hc
 obtain⟨c0,c1,c2⟩:=mu hR
 have f0:=λ i=>hR.frozen i
 have HP:=zh (λ W=>Du (dec n) n (Bu hn) hn W)
 have HB:=zh hR
 have HW:=zh (show _/\_/\_/\_/\_/\_/\_ from ⟨hE,hV,hw,hx,hy,hp,Bm⟩)
 clear hE hV hw hx hy hp Bm
 clear hL hl hn hT hR DY Bg Kn hc
 go_enter Tryz.func174,Tryz.ntmps174
 go_wp2_with fail
 refine rG [] (λ _=>False) ?_
 refine pG 0 12 ?_
 refine pG 1 13 ?_
 refine pG 2 14 ?_
 refine tG 3 15 (y:=λ w' Ah=>by have AM:=ze Ah (show Pe w.drew _=_ from c0);have AX:=ze Ah (show Pe w.drew _=_ from c1);go_simp<;>with_reducible rfl) (h:=?_)
 refine pG 4 16 ?_
 refine pG 5 17 ?_
 refine pG 6 18 ?_
 refine tG 7 19 (y:=λ w' Ah=>by have AM:=ze Ah (show Pe w.drew _=_ from c0);have AX:=ze Ah (show Pe w.drew _=_ from c1);go_simp<;>with_reducible rfl) (h:=?_)
 refine pG 8 20 ?_
 refine pG 9 21 ?_
 refine dG ?_
 go_wp2_with fail
 refine rG [] (λ _=>False) ?_
 refine pG 0 26 ?_
 refine pG 1 27 ?_
 refine pG 2 28 ?_
 refine tG 3 29 (y:=λ w' Ah=>by have AM:=ze Ah (show Pe w.drew.drew _=_ from c0);have AX:=ze Ah (show Pe w.drew.drew _=_ from c1);have CN:=ze Ah (show Pe w.drew.drew _=_ from Mq);go_simp<;>with_reducible rfl) (h:=?_)
 refine pG 4 30 ?_
 refine pG 5 31 ?_
 refine pG 6 32 ?_
 refine tG 7 33 (y:=λ w' Ah=>by have AM:=ze Ah (show Pe w.drew.drew _=_ from c0);have AX:=ze Ah (show Pe w.drew.drew _=_ from c1);have CN:=ze Ah (show Pe w.drew.drew _=_ from Mq);go_simp<;>with_reducible rfl) (h:=?_)
 refine pG 8 34 ?_
 refine tG 9 35 (y:=λ w' Ah=>by have AM:=ze Ah (show Pe w.drew.drew _=_ from c0);have AX:=ze Ah (show Pe w.drew.drew _=_ from c1);have CN:=ze Ah (show Pe w.drew.drew _=_ from Mq);go_simp<;>with_reducible rfl) (h:=?_)
 refine sG 10 36 (λ K Aj=>?_)
 go_simp
 refine(HP.out _).mono ?_
 rintro e w3 ⟨rfl,kS⟩
 show K _ _
 refine Aj (.tuple #[u64 n,i64 0]) _ (λ _=>kS) ?_
 clear Aj
 simp only[sA]
 refine pG 11 25 ?_
 refine pG 12 37 ?_
 refine pG 13 38 ?_
 refine pG 14 5 ?_
 refine pG 15 6 ?_
 refine dG ?_
 replace kS:=kS.undrew2
 go_wp2_with fail
 refine(sX p q r x y f n E V v _ (HW.out.1.grew kS) (HW.out.2.1.grew kS) (HW.out.2.2.1.grew kS) HW.out.2.2.2.1 HW.out.2.2.2.2.1 HW.out.2.2.2.2.2.1 HW.out.2.2.2.2.2.2).mono ?_
 rintro e w4 ⟨rfl,rfl⟩
 have dB:=HB.out.grew kS
 have f3:=dB.frozen 2
 have d0:=dB.cell 0
 have d1:=dB.cell 1
 have f1:=dB.frozen 1
 have d2:=dB.cell 2
 simp at d0 d1 d2
 have F7:PD (Am (((w3.setCell ⟨R,2,none⟩ (i64 0)).setCell ⟨R,1,none⟩ (i64 (k+1:Nat)))) R 201 #[.slice (some ⟨b,off,none⟩) L cap,i64 (k+1:Nat),i64 0]/\Kept (·=R) w ((w3.setCell ⟨R,2,none⟩ (i64 0)).setCell ⟨R,1,none⟩ (i64 (k+1:Nat)))) :=
  ⟨by have:=(dB.set 2 (i64 0)).set 1 (i64 (k+1:Nat));simpa using this,((Ac.kept (F:=(·=R)) kS).setCell (p:=⟨R,2,none⟩) (.inl rfl) _).setCell (p:=⟨R,1,none⟩) (.inl rfl) _⟩
 clear HB kS dB
 go_wp2_with fail
 go_ret
 have e:((k+1:Nat):Int)=(k:Int)+1:=by omega
 have hf:=F7.out
 rw[e]at hf ⊢
 exact⟨rfl,hf⟩
theorem jh (R:Nat) (A:Option Pd) (ls:List (List UInt8)) (cap n m:Nat) (w:Pa) (hR:Am w R 201 #[.slice A ls.length cap,i64 0,i64 0]) (h0:ls[0]? = some (dec n)) (h1:ls[1]? = some (dec m)) (hn:1<=n/\n<=4096) (hm:m<=16384) (DY:ls.length<=100000) (hT:CU w A ls) (Bg:ls.length<=cap) :
  Pc A_ 125 #[pt R] w λ e w'=>e=.returned (.tuple #[i64 n,i64 m])/\Am w' R 201 #[.slice A ls.length cap,i64 2,i64 0]/\Kept (·=R) w w':=by
 have Bm:∀ a,A=some a->a.block≠R:=λ a ha e=>by
  obtain⟨b,off,hA,hb,hc⟩:=hT 0 _ h0;rw[hA]at ha;cases ha;have Jp:=hR.cell off;simp at e;subst e;rw[Nat.add_zero]at hc;rw[hc]at Jp;match off,Jp with
  | 0,h=>simp at h
  | 1,h=>simp at h
  | 2,h=>simp at h
  | n+3,h=>simp at h
 have H:=zh (show _/\_/\_/\_/\_/\_/\_ from ⟨hR,h0,h1,hn,hm,hT,Bm⟩)
 have HL:=BP DY Bg
 have c1:PF.wrap (n:Int)=(n:Int):=PB _ (by omega)
 have c2:PF.wrap (m:Int)=(m:Int):=PB _ (by omega)
 have HW1:=zh (λ W=>GZ 1 4096 2 W)
 have xE:=zh (λ W=>GZ 0 16384 5 W)
 clear hR h0 h1 hn hm hT DY Bg Bm
 go_enter Tryz.func125,Tryz.ntmps125
 go_wp2_with fail
 refine(HW1.out _).mono ?_
 rintro e w1 ⟨v,rfl,hv,k1⟩
 have N1:=zh (JO R A ls cap 0 n 1 4096 2 v w1 (H.out.1.grew k1) H.out.2.1 (by have:=H.out.2.2.2.1;omega) HL.out.1 (H.out.2.2.2.2.2.1.grew k1) HL.out.2 hv (by have:=H.out.2.2.2.1;omega) (by have:=H.out.2.2.2.1;omega))
 have K1:=zh k1
 clear hv k1
 go_wp2_with fail
 refine N1.out.mono ?_
 rintro e w2 ⟨rfl,Ng,k2⟩
 have xy:=BP Ng ((Ac.kept K1.out).trans k2)
 clear Ng k2 N1 K1
 go_wp2_with fail
 refine(xE.out _).mono ?_
 rintro e w3 ⟨v2,rfl,hv,k3⟩
 have N1:=zh (JO R A ls cap 1 m 0 16384 5 v2 w3 (xy.out.1.grew k3) H.out.2.2.1 (by have:=H.out.2.2.2.2.1;omega) HL.out.1 ((H.out.2.2.2.2.2.1.kept xy.out.2 H.out.2.2.2.2.2.2).grew k3) HL.out.2 hv (by omega) (by have:=H.out.2.2.2.2.1;omega))
 have K3:=zh k3
 clear hv k3
 go_wp2_with fail
 refine N1.out.mono ?_
 rintro e w4 ⟨rfl,hR4,k4⟩
 have HF:=BP hR4 (xy.out.2.trans ((Ac.kept K3.out).trans k4))
 clear hR4 k4 N1 xy K3
 go_wp2_with fail
 go_ret2
 exact⟨rfl,HF.out⟩
end Go.Proofs.YtepelooebggliaaGreatDoor
