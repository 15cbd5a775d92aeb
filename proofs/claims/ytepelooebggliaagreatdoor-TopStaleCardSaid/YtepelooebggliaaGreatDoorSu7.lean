/- Walks of functions that the law reaches, and plain laws, part 8 of 21: lemmas for the proof in the last text; no condition. Shortened by program. -/
import Derived.RegionTactic
import Derived.Deep.DeepCutAuto
import Derived.Lib.SliceRun
import Derived.Carry
import Derived.Test.YtepelooebggliaaGreatDoorSu0
import Derived.Test.YtepelooebggliaaGreatDoorSu1
import Derived.Test.YtepelooebggliaaGreatDoorSu2
import Derived.Test.YtepelooebggliaaGreatDoorSu3
import Derived.Test.YtepelooebggliaaGreatDoorSu4
open List renaming getD_eq_getElem?_getD->A_,mem_iff_getElem?->B_,getElem?_eq_some_iff->C_,getElem?_set_self->D_,getElem?_set_ne->E_,length_append->F_,getElem?_map->G_,flatMap_cons->H_,nil_append->I_,getElem?_take_of_lt->J_,getElem?_cons_succ->K_,mem_map->L_,getElem?_range->M_,mem_singleton->N_,range->O_,mem_append->Pa
open Go renaming World->Pb,Value->Pc,Addr->Pd,Calls->Pe
open Go.Proofs.Tryz renaming prog->Pf,underlying26->Pg,underlying85->Ph,ntmps389->Pj,func389->Pk,ntmps388->Pm,func388->Pn,underlying259->Po,underlying413->Pp
open Int renaming toNat_natCast->Pq,eq_ofNat_of_zero_le->Pr,lt_or_le->Ps
open Go.World renaming size_alloc->Pt,news_of_block->Pu,ownsRow_nil->Pv,size_drew->Pw
open Exists renaming intro->Px
open Go.Exit renaming noGoto_ret->Py
open Array renaming getElem?_eq_some_iff->Pz,getElem?_setIfInBounds_self_of_lt->PA,getElem?_setIfInBounds_ne->PB
open Option.some renaming inj->PC
open Nat renaming zero_add->PD,lt_of_lt_of_le->PE
open Option renaming getD_some->PF,isSome_none->PG,isSome_some->PH,getD_none->PI,map_eq_some_iff->PJ
open Go.RowKit renaming Hid->PK
open Go.Lib renaming run_eql_slice_nil->PL
open Go.Value renaming bool->PM,slice->PN
set_option maxHeartbeats 16000000
set_option maxRecDepth 100000
set_option linter.unusedVariables false
set_option linter.unusedSimpArgs false
namespace Go.Proofs.YtepelooebggliaaGreatDoor
open Go.RowKit
def IntsF (w:Pb) (g n:Nat) (f:Int->Int):Prop:=∃ cur,Am w g 3 cur/\∀ i:Nat,i<n->cur[i]? = some (i64 (f (i:Int)))
theorem IntsF.cell {w:Pb} {g n i:Nat} {f:Int->Int} (h:IntsF w g n f) (hi:i<n):w.cell? ⟨g,i,none⟩=some (i64 (f (i:Int))):=by
 obtain⟨cur,h,hc⟩:=h;rw[h.cell i,hc i hi]
theorem IntsF.frozen {w:Pb} {g n:Nat} {f:Int->Int} (h:IntsF w g n f) (i:Nat):w.frozen? ⟨g,i,none⟩=false:=h.elim λ _ h=>h.1.frozen i
theorem IntsF.lt {w:Pb} {g n:Nat} {f:Int->Int} (h:IntsF w g n f):g<w.heap.size:=h.elim λ _ h=>h.1.lt
theorem IntsF.kept {F:Nat->Prop} {w w':Pb} {g n:Nat} {f:Int->Int} (h:IntsF w g n f) (k:Kept F w w') (hF:¬ F g):IntsF w' g n f:=h.imp λ _ h=>⟨h.1.kept k hF,h.2⟩
theorem IntsF.grew {w w':Pb} {g n:Nat} {f:Int->Int} (h:IntsF w g n f) (k:Ac w w'):IntsF w' g n f:=h.kept k λ h=>h
theorem IntsF.set {w:Pb} {g n i:Nat} {f:Int->Int} (h:IntsF w g n f) (hi:i<n) (b:Int):IntsF (w.setCell ⟨g,i,none⟩ (i64 b)) g n (upd f (i:Int) b):=by
 obtain⟨cur,h,hc⟩:=h;refine⟨_,h.set i (i64 b),λ j hj=>?_⟩;by_cases hji:j=i
 ·subst hji;have hs:=(Pz.1 (hc j hj)).1;rw[PA hs,AZ]
 ·rw[PB (λ e=>hji e.symm),hc j hj,AA _ _ (by omega)]
theorem made_of {W:Pb} {g m:Nat} (h:Am W g 3 (madeCells #[i64 0] m)):IntsF W g m (λ _=>0):=⟨_,h,λ i hi=>by simp[madeCells,Value.cells,hi,Nat.mod_one]⟩
structure SS (w wr:Pb) (R C N gS H A2 r6:Nat) (v:Pc) (bx:Array Pc) (far:Int->Option Int) (st:Int->Int) (l:List (Int×Int)) (many:Int):Prop where
 stamp:Sm.Stamp wr R C N far 1 many
 steps:IntsF wr gS N st
 heap:Hp.Hp wr H A2 N v l
 box:Am wr r6 348 bx
 kept:Ac w wr
 new:w.heap.size<=R/\w.heap.size<=C/\w.heap.size<=gS/\w.heap.size<=H/\w.heap.size<=A2/\w.heap.size<=r6
 ne:gS≠A2
 vb:∀ j,v.ownBlock=some j->w.heap.size<=j
section
variable {w wr w':Pb} {R C N gS H A2 r6:Nat} {v v':Pc} {bx:Array Pc} {far Dc:Int->Option Int} {st:Int->Int} {l l':List (Int×Int)} {many Bn:Int}
theorem Hy (s:Hp.Hp wr H A2 N v l) (h:IntsF wr gS N st) (Bm:gS≠A2):¬ Hp.HB H A2 v gS:=by
 obtain⟨cur,hb,_⟩:=h;obtain⟨a,s,_⟩:=s;rintro (rfl | h | h)
 ·exact Ay s.box hb (by decide) rfl
 ·exact Bm h
 ·obtain⟨_,c1,g1⟩:=Ao s.row h;exact Ay (show Am wr gS _ c1 from g1) hb (by decide) rfl
theorem SS.grew (s:SS w wr R C N gS H A2 r6 v bx far st l many) (k:Ac wr w'):SS w w' R C N gS H A2 r6 v bx far st l many :=
 ⟨s.stamp.kept k (λ h=>h) (λ h=>h),s.steps.grew k,s.heap.grew k,s.box.grew k,s.kept.trans k,s.new,s.ne,s.vb⟩
theorem SS.turn (s:SS w wr R C N gS H A2 r6 v bx far st l many) (t:Hp.Turn wr w' H A2 N v v' l'):SS w w' R C N gS H A2 r6 v' bx far st l' many:=by
 obtain⟨cs,hc,_⟩:=s.stamp.cells;refine⟨s.stamp.kept t.kept (s.heap.apart s.stamp.row (by decide) (by decide) (by decide)) (s.heap.apart hc (by decide) (by decide) (by decide)),s.steps.kept t.kept (Hy s.heap s.steps s.ne),t.hp,
  s.box.kept t.kept (s.heap.apart s.box (by decide) (by decide) (by decide)),s.kept.then t.kept (λ i hi h=>?_),s.new,s.ne,λ j hj=>?_⟩
 ·rcases h with h | h | h
  ·have:=s.new.2.2.2.1;omega
  ·have:=s.new.2.2.2.2.1;omega
  ·have:=s.vb i h;omega
 ·rcases Nat.lt_or_ge j wr.heap.size with h1 | h1
  ·exact s.vb j (t.old j h1 hj)
  ·have:=s.kept.size;omega
theorem SS.two (s:SS w wr R C N gS H A2 r6 v bx far st l many) (k:Kept (Sm.Two R C) wr w') (h:Sm.Stamp w' R C N Dc 1 Bn):SS w w' R C N gS H A2 r6 v bx Dc st l Bn:=by
 obtain⟨cs,hc,_⟩:=s.stamp.cells;obtain⟨cur,hs,_⟩:=s.steps;have a1:=s.heap.apart s.stamp.row (by decide) (by decide) (by decide);have a2:=s.heap.apart hc (by decide) (by decide) (by decide);refine⟨h,s.steps.kept k (λ e=>?_),s.heap.kept k (λ j hj e=>?_),s.box.kept k (λ e=>?_),s.kept.then k (λ i hi e=>?_),s.new,s.ne,s.vb⟩
 ·rcases e with e | e
  ·exact Ay hs s.stamp.row (by decide) e
  ·exact Ay hs hc (by decide) e
 ·rcases e with rfl | rfl
  ·exact a1 hj
  ·exact a2 hj
 ·rcases e with e | e
  ·exact Ay s.box s.stamp.row (by decide) e
  ·exact Ay s.box hc (by decide) e
 ·rcases e with e | e
  ·have:=s.new.1;omega
  ·have:=s.new.2.1;omega
theorem SS.step (s:SS w wr R C N gS H A2 r6 v bx far st l many) {i:Nat} (hi:i<N) (b:Int):SS w (wr.setCell ⟨gS,i,none⟩ (i64 b)) R C N gS H A2 r6 v bx far (upd st (i:Int) b) l many:=by
 obtain⟨cs,hc,_⟩:=s.stamp.cells;obtain⟨cur,hs,_⟩:=s.steps;have k:Kept (·=gS) wr (wr.setCell ⟨gS,i,none⟩ (i64 b)):=(zr (·=gS) wr).setCell (p:=⟨gS,i,none⟩) (.inl rfl) _;have a1:=Hy s.heap s.steps s.ne;refine⟨s.stamp.kept k (λ e=>?_) (λ e=>?_),s.steps.set hi b,s.heap.kept k (λ j hj e=>?_),s.box.kept k (λ e=>?_),s.kept.then k (λ i hi e=>?_),s.new,s.ne,s.vb⟩
 ·exact Ay hs s.stamp.row (by decide) e.symm
 ·exact Ay hs hc (by decide) e.symm
 ·have e':j=gS:=e;subst e';exact a1 hj
 ·exact Ay hs s.box (by decide) e.symm
 ·have e':i=gS:=e;have:=s.new.2.2.1;omega
end
def CP (ls:List (List Ar)):D1:=λ v=>if 0<=v then ls.getD v.toNat [] else []
def Bk (gs:List Bool):Int->Bool:=λ v=>gs.getD v.toNat false
def JS (N:Nat) (arcs:D1) (gone:Int->Bool) (s t below:Int) (Bp:Bool) (w:Pb) (e:Ending) (w':Pb):Prop :=
 ∃ (x:Int) (is:Bool),e=.returned (.tuple #[u64 x,.bool is])/\Ac w w'/\0<=x/\(is=false->x=0)/\(is=true->gone s=false/\gone t=false/\x<below/\∃ k:Nat,k<=N/\Reach arcs gone s k t x) /\
  (is=true->Bp=true->∀ (k:Nat) (y:Int),Reach arcs gone s k t y->x<=y)/\(is=false->Bp=true->gone s=true\/∀ (k:Nat) (y:Int),Reach arcs gone s k t y->below<=y)
theorem jl {arcs:D1} {gone:Int->Bool} {s t:Int} (CW:s≠t) (hg:gone t=true) {k:Nat} {y:Int} (h:Reach arcs gone s k t y):False:=by
 cases h with
 | start=>exact CW rfl
 | arc h1 h2 h3=>rw[hg]at h3;cases h3
theorem Hw {w:Pb} {H A N:Nat} {v:Pc} {l:List Hp.Itm} {e0:Hp.Itm} (s:Hp.Hp w H A N v l) (h:l[0]? = some e0):(∀ f∈l,¬ Hp.lessI f e0=true)/\∀ f∈l,e0.2<=f.2:=by
 obtain⟨a,_,g⟩:=s;have hl:∀ f∈l,¬ Hp.lessI f e0=true:=λ f hf=>by
  obtain⟨k,hk⟩:=B_.1 hf;exact Hp.top_law g.2 h k f hk
 refine⟨hl,λ f hf=>?_⟩;have:=hl f hf;rw[Hp.lessI_iff]at this;omega
theorem gN {w:Pb} {H A N:Nat} {v:Pc} {e0:Hp.Itm} {l0 l':List Hp.Itm} (s:Hp.Hp w H A N v (e0::l0)) (hp:l'.Perm ((e0::l0).eraseIdx 0)):(∀ e,e∈l'↔e∈e0::l0/\e≠e0)/\∀ e∈e0::l0,e.1=e0.1->e=e0:=by
 have one:∀ (k:Nat) (e:Hp.Itm),(e0::l0)[k]? = some e->e.1=e0.1->k=0:=λ k e hk he=>s.one hk (show (e0::l0)[0]? = some e0 from rfl) he;have Cx:e0∉l0:=λ h=>by
  obtain⟨k,hk⟩:=B_.1 h;have:=one (k+1) e0 (by rw[K_];exact hk) rfl;omega
 refine⟨λ e=>?_,λ e he hv=>?_⟩
 ·rw[hp.mem_iff,List.eraseIdx_cons_zero,List.mem_cons];constructor
  ·intro h;exact⟨.inr h,λ e'=>Cx (e'▸h)⟩
  ·rintro ⟨h | h,h2⟩
   ·exact absurd h h2
   ·exact h
 ·obtain⟨k,hk⟩:=B_.1 he;have h0:=one k e hk hv;subst h0;simpa using hk.symm
theorem gZ {w:Pb} {H A N:Nat} {v:Pc} {l:List Hp.Itm} {i:Nat} {u y:Int} (s:Hp.Hp w H A N v l) (hi:l[i]? = some (u,y)) (nd:Int) (e:Hp.Itm):e∈l.set i (u,nd)↔(e∈l/\e.1≠u)\/e=(u,nd):=by
 have AH:=(C_.1 hi).1;constructor
 ·intro h;obtain⟨k,hk⟩:=B_.1 h;by_cases DX:i=k
  ·subst DX;rw[D_ AH]at hk;cases hk;exact .inr rfl
  ·rw[E_ DX]at hk;exact .inl ⟨zm hk,λ he=>DX (s.one hi hk he.symm)⟩
 ·rintro (⟨h,Bm⟩ | rfl)
  ·obtain⟨k,hk⟩:=B_.1 h;have DX:i≠k:=λ e'=>by
    subst e'
    rw[hi]at hk
    cases hk
    exact Bm rfl
   exact zm (by rw[E_ DX];exact hk)
  ·exact zm (D_ AH)
theorem uC {N:Nat} {arcs seen:D1} {gone:Int->Bool} {s0 t:Int} {Bp:Bool} {Q:List Int} {far:Int->Option Int} {st:Int->Int} (w:Pb) (H A:Nat) (v:Pc) (l:List Hp.Itm) (s:Hp.Hp w H A N v l) (hk:CF N arcs gone s0 t Bp Q seen far st l) (u nd:Int) (h0:0<=u) (h1:u<(N:Int)) (hu:u∉Q) (AH:∀ y,far u=some y->nd<y) :
  Pe Pf 314 #[pt H,i64 u,u64 nd] w λ r w'=>r=.returned (.bool true)/\∃ v' l',(∀ e,e∈l'↔(e∈l/\e.1≠u)\/e=(u,nd))/\Hp.Turn w w' H A N v v' l':=by
 cases hf:far u with
 | none =>
  have Cx:∀ e∈l,e.1≠u:=λ e he h=>by
   have:=((hk.keys e.1 e.2).1 he).1;rw[h,hf]at this;cases this
  refine(Hp.put_new2 w H A N v l s u nd h0 h1 Cx).mono ?_;rintro r w' ⟨rfl,v',l',hp,ht⟩;refine⟨rfl,v',l',λ e=>?_,ht⟩;rw[hp.mem_iff,Pa,N_];constructor
  ·rintro (h | h)
   ·exact .inl ⟨h,Cx e h⟩
   ·exact .inr h
  ·rintro (h | h)
   ·exact .inl h.1
   ·exact .inr h
 | some y =>
  obtain⟨i,hi⟩:=B_.1 ((hk.keys u y).2 ⟨hf,hu⟩);refine(Hp.put_less2 w H A N v l s i (u,y) nd hi (AH y hf)).mono ?_;rintro r w' ⟨rfl,v',l',hp,ht⟩;exact⟨rfl,v',l',λ e=>by rw[hp.mem_iff];exact gZ s hi nd e,ht⟩
theorem Ja (N:Nat) (far:Int->Option Int) (u nd many:Int) (h0:0<=u) (h1:u<(N:Int)) :
  (Sm.leastB N far u nd=true/\(∀ y,far u=some y->nd<y)/\Sm.leastH N far u nd=upd far u (some nd)/\Sm.leastM N far u nd many<=many+1) \/
  (Sm.leastB N far u nd=false/\(∃ y,far u=some y/\y<=nd)/\Sm.leastH N far u nd=far/\Sm.leastM N far u nd many<=many+1):=by
 have BF:Sm.inn N u=true:=zt ⟨h0,h1⟩
 cases hf:far u with
 | none =>
  have hb:Sm.leastB N far u nd=true:=(by simp[Sm.leastB,BF,hf]);exact .inl ⟨hb,(λ y h=>by cases h),by unfold Sm.leastH;rw[if_pos hb];rfl,by unfold Sm.leastM Sm.manyP;rw[if_pos hb];split<;>omega⟩
 | some x =>
  by_cases hx:x<=nd
  ·have hb:Sm.leastB N far u nd=false:=(by simp[Sm.leastB,BF,hf,hx]);exact .inr ⟨hb,⟨x,rfl,hx⟩,by unfold Sm.leastH;rw[hb];rfl,by unfold Sm.leastM;rw[hb];simp<;>omega⟩
  ·have hb:Sm.leastB N far u nd=true:=by simp[Sm.leastB,BF,hf];omega
   exact .inl ⟨hb,(λ y h=>by cases h;omega),by unfold Sm.leastH;rw[if_pos hb];rfl,by unfold Sm.leastM Sm.manyP;rw[if_pos hb];split<;>omega⟩
theorem Kx {N:Nat} {arcs:D1} {gone:Int->Bool} {s t:Int} {Bp:Bool} {P:List Int} {far:Int->Option Int} {steps:Int->Int} {l:List (Int×Int)} (h:CF N arcs gone s t Bp P arcs far steps l) (hg:Bp=true) (Ba:Mc N arcs) (d:Int) (hd:∀ e∈l,d<=e.2) {k:Nat} {x:Int} (hr:Reach arcs gone s k t x):d<=x:=by
 subst hg;exact h.lower d hd (λ v u c hc=>(Ba.arc v u c hc).2.2.1) hr
theorem er {N:Nat} {arcs:D1} {gone:Int->Bool} {s t:Int} {Bp:Bool} {P:List Int} {far:Int->Option Int} {steps:Int->Int} (h:CF N arcs gone s t Bp P arcs far steps []) (hg:Bp=true) (Ba:Mc N arcs) {k:Nat} {x:Int} (hr:Reach arcs gone s k t x):False:=by
 subst hg;exact h.empty (λ v u c hc=>(Ba.arc v u c hc).2.2.1) hr
theorem eM (A V:Option Pd) (c cG N s t:Nat) (ls:List (List Ar)) (gs:List Bool) (below hops settles:Int) (w:Pb) (h:cP w A ls) (hG:LJ w V gs) (DY:ls.length=N) (hgs:gs.length=N) (hs:s<N) (ht:t<N) (CW:s≠t) (hN:N<=30) (yi:∀ l∈ls,l.length<=30) (Ba:Mc N (CP ls)) (hb:0<=below) :
  Pe Pf 388 #[.agg #[.slice A N c,.slice V N cG],i64 s,i64 t,u64 below,i64 hops,i64 settles] w λ e w'=>JS N (CP ls) (Bk gs) s t below (decide ((N:Int)<=hops/\(N:Int)<=settles)) w e w':=by
 have b0:=zv w 348 #[.slice A N c,.slice V N cG]
 have BY:Ac w (w.alloc (.cells #[.slice A N c,.slice V N cG] 348)):=(zr _ _).alloc _
 obtain⟨g1,GI⟩:=zx (l:=gs) (i:=s) (by omega)
 obtain⟨g2,cB⟩:=zx (l:=gs) (i:=t) (by omega)
 have e1:Bk gs (s:Int)=g1:=by unfold Bk;rw[Pq,A_,GI];rfl
 have e2:Bk gs (t:Int)=g2:=by unfold Bk;rw[Pq,A_,cB];rfl
 obtain⟨bv,ov,hV,hbv,cv1⟩:=hG s g1 GI
 obtain⟨bv',ov',hV',hbv',cv2⟩:=hG t g2 cB
 subst hV
 cases hV'
 replace cv1:=BY.cell cv1
 replace cv2:=BY.cell cv2
 obtain⟨c0,c1⟩:=CE b0
 have s0:(0:Int)<=(s:Int):=by omega
 have s1:(s:Int)<(N:Int):=by omega
 have t0:(0:Int)<=(t:Int):=by omega
 have t1:(t:Int)<(N:Int):=by omega
 obtain⟨Bp,Kl⟩:=zn (decide ((N:Int)<=hops/\(N:Int)<=settles))
 have xo:=zh Kl
 rw[Kl]
 have HE:=zh h
 have HGo:=zh hG
 have HLS:=zh DY
 have HGS:=zh hgs
 have H30:=zh yi
 have rC:=zh Ba
 have fj:=zh CW
 obtain⟨arcs,fM⟩:=zn (CP ls)
 obtain⟨gone,fQ⟩:=zn (Bk gs)
 rw[fQ]at e1 e2
 rw[fM]at rC
 have HAR:=zh fM
 have HGN:=zh fQ
 rw[fM,fQ]
 have E1:=zh e1
 have E2:=zh e2
 clear h hG DY hgs yi Ba CW Kl fM fQ GI cB e1 e2
 cases g1 with
 | true =>
  have hF:PK (∀ W,Ac w W->JS N arcs gone s t below Bp w (.returned (.tuple #[u64 0,.bool false])) W):=λ W k =>
   ⟨0,false,rfl,k,by omega,λ _=>rfl,(λ h=>by cases h),(λ h=>by cases h),λ _ _=>.inl E1.out⟩
  go_enter Pn,Pm;go_wp2_with fail;go_step3;go_wp2_with fail;rw[Py];go_ret2;exact hF.out _ BY
 | false =>
 cases g2 with
 | true =>
  have hF:PK (∀ W,Ac w W->JS N arcs gone s t below Bp w (.returned (.tuple #[u64 0,.bool false])) W):=λ W k =>
   ⟨0,false,rfl,k,by omega,λ _=>rfl,(λ h=>by cases h),(λ h=>by cases h),λ _ _=>.inr λ k y hr=>absurd hr (λ hr=>jl (by have:=fj.out;omega) E2.out hr)⟩
  go_enter Pn,Pm;go_wp2_with fail;go_step3;go_wp2_with fail;rw[Py];go_ret2;exact hF.out _ BY
 | false =>
 obtain⟨i0,hi,Cu,BV,Cj⟩:=info_parts info_int
 have Hu:=λ W=>run_make (P:=Pf) W 26 3 i0 _ Pg hi Cu .i64 .i64 (N:Int) (N:Int) (by omega) (Int.le_refl _) (by rw[Cj];omega) (by omega)
 simp only[Pq,BV,Nat.mul_one]at Hu
 clear hi Cu BV Cj
 have yo:=zh (λ W=>Sm.new_yes N W (by omega))
 have te:=zh (λ W=>Hp.new2 N W (by omega))
 go_enter Pn,Pm
 go_wp2_with fail
 go_step3
 go_upto_region 3 with fail
 have hdr:∀ o:Nat,True:=λ _=>trivial
 clear hdr
 obtain⟨w1,AQ⟩:=zn (w.alloc (.cells #[.slice A N c,.slice (some ⟨bv,ov,none⟩) N cG] 348))
 rw[AQ]at b0 BY cv1 cv2 ⊢
 obtain⟨r6,dT⟩:=zn (w.heap.size)
 have mz:=zh dT
 have b6:=b0
 rw[dT]at b6 ⊢
 clear c0 c1
 obtain⟨c0,c1⟩:=CE b6
 have hz6:r6<w1.heap.size:=b6.lt
 clear AQ b0 dT
 go_cut [14,15,16] (λ s14 s15 s16 wx=>∃ R C gS H A2:Nat,s14=pt R/\s15=.slice (some ⟨gS,0,none⟩) N N/\s16=pt H/\PK (w1.heap.size<=R/\w1.heap.size<=C/\w1.heap.size<=gS/\w1.heap.size<=H/\w1.heap.size<=A2/\gS≠A2/\Sm.Stamp wx R C N (λ _=>none) 1 0/\IntsF wx gS N (λ _=>0)/\Hp.Hp wx H A2 N (.slice none 0 0) []/\Ac w1 wx))
 case first =>
  refine rG [] (λ _=>False) ?_;refine pG 0 34 ?_;refine tG 1 35 (y:=λ w' Ah=>by have AM:=(b6.drew.grew Ah).cell 0;have AX:=(b6.drew.grew Ah).cell 1;simp at AM AX;go_simp<;>with_reducible rfl) (h:=?_);refine pG 2 36 ?_;refine pG 4 38 ?_;refine tG 5 39 (y:=λ w' Ah=>by have AM:=(b6.drew.grew Ah).cell 0;have AX:=(b6.drew.grew Ah).cell 1;simp at AM AX;go_simp<;>with_reducible rfl) (h:=?_);refine pG 6 40 ?_;refine pG 8 42 ?_;refine tG 9 43 (y:=λ w' Ah=>by have AM:=(b6.drew.grew Ah).cell 0;have AX:=(b6.drew.grew Ah).cell 1;simp at AM AX;go_simp<;>with_reducible rfl) (h:=?_);refine pG 10 44 ?_;refine AP 3 37 7 41 rfl rfl (by kernel_rfl) rfl rfl (by rfl) (by rfl) (λ K Aj=>?_) (λ K Aj=>?_)
  ·go_simp;refine(yo.out _).mono ?_;rintro e ws ⟨R,C,rfl,zR,zC,sS,ks⟩;refine Aj _ _ (λ _=>ks) ?_;clear Aj;simp only[sA];refine AP 7 41 11 45 rfl rfl (by kernel_rfl) rfl rfl (by rfl) (by rfl) (λ K Aj=>?_) (λ K Aj=>?_)
   ·go_simp;refine Aj _ _ (λ _=>(zr _ _).alloc _) ?_;clear Aj;simp only[sA];refine sG 11 45 (λ K Aj=>?_);go_simp;refine(te.out _).mono ?_;rintro e wh ⟨rfl,sH,kh⟩;refine Aj _ _ (λ _=>kh) ?_;clear Aj;simp only[sA];refine pG 12 14 ?_;refine pG 13 15 ?_;refine pG 14 16 ?_;refine dG ?_;go_wp2_with fail;go_meet;exact⟨R,C,ws.heap.size,(ws.heap.size+1+1),(ws.heap.size+1),rfl,rfl,rfl,zh (show _ from by
     have q1:=ks.size
     have q2:=kh.size
     have q3:=sH.elim λ a s'=>s'.1.box.lt
     try simp only [Pt]at q3
     simp only[Pt,Pw]at q1 q2 zR zC
     refine⟨by omega,by omega,by omega,by (try simp)<;>omega,by (try simp)<;>omega,by (try simp)<;>omega,sS.kept (((zr (λ _=>False) _).alloc _).trans kh) (λ h=>h) (λ h=>h),(made_of (zv ws _ _)).grew kh,(by have h:=sH;simp only[Pt]at h;exact h),(((zr _ _).drew.trans ks).alloc _).trans kh⟩)⟩
   ·go_simp;refine(te.out _).mono ?_;rintro e wh ⟨rfl,sH,kh⟩;refine Aj _ _ (λ _=>kh) ?_;clear Aj;simp only[sA];refine pG 12 14 ?_;refine sG 7 41 (λ K Aj=>?_);go_simp;refine Aj _ _ (λ _=>(zr _ _).alloc _) ?_;clear Aj;simp only[sA];refine pG 13 15 ?_;refine pG 14 16 ?_;refine dG ?_;go_wp2_with fail;go_meet;exact⟨R,C,wh.heap.size,(ws.heap.size+1),ws.heap.size,rfl,rfl,rfl,zh (show _ from by
     have q1:=ks.size
     have q2:=kh.size
     have q3:=sH.elim λ a s'=>s'.1.box.lt
     try simp only [Pt]at q3
     simp only[Pt,Pw]at q1 q2 zR zC
     refine⟨by omega,by omega,by omega,by (try simp)<;>omega,by (try simp)<;>omega,by (try simp)<;>omega,sS.kept (kh.trans ((zr (λ _=>False) _).alloc _)) (λ h=>h) (λ h=>h),made_of (zv wh _ _),sH.grew ((zr _ _).alloc _),(((zr _ _).drew.trans ks).trans kh).alloc _⟩)⟩
  ·go_simp;refine Aj _ _ (λ _=>(zr _ _).alloc _) ?_;clear Aj;simp only[sA];refine sG 3 37 (λ K Aj=>?_);go_simp;refine(yo.out _).mono ?_;rintro e ws ⟨R,C,rfl,zR,zC,sS,ks⟩;refine Aj _ _ (λ _=>ks) ?_;clear Aj;simp only[sA];refine sG 11 45 (λ K Aj=>?_);go_simp;refine(te.out _).mono ?_;rintro e wh ⟨rfl,sH,kh⟩;refine Aj _ _ (λ _=>kh) ?_;clear Aj;simp only[sA];refine pG 12 14 ?_;refine pG 13 15 ?_;refine pG 14 16 ?_;refine dG ?_;go_wp2_with fail;go_meet;exact⟨R,C,w1.heap.size,(ws.heap.size+1),ws.heap.size,rfl,rfl,rfl,zh (show _ from by
    have q1:=ks.size
    have q2:=kh.size
    have q3:=sH.elim λ a s'=>s'.1.box.lt
    try simp only [Pt]at q3
    simp only[Pt,Pw]at q1 q2 zR zC
    refine⟨by omega,by omega,by omega,by (try simp)<;>omega,by (try simp)<;>omega,by (try simp)<;>omega,sS.kept kh (λ h=>h) (λ h=>h),((made_of (zv w1.drew _ _)).grew ks).grew kh,sH,((((zr _ _).drew).alloc _).trans ks).trans kh⟩)⟩
 case rest =>
  obtain⟨R,C,gS,H,A2,rfl,rfl,rfl,HC⟩:=hcut;have kw:=BY.size;obtain⟨z1,z2,z3,z4,z5,z6,sS,iS,hH,k1⟩:=HC.out;have h6:=b6.grew k1;have vI:PK (SS w wc R C N gS H A2 r6 (.slice none 0 0) #[.slice A N c,.slice (some ⟨bv,ov,none⟩) N cG] (λ _=>none) (λ _=>0) [] 0) :=
   ⟨sS,iS,hH,h6,BY.trans k1,⟨by omega,by omega,by omega,by omega,by omega,by rw[<- mz.out];exact zl _⟩,z6,λ j hj=>by cases hj⟩
  have nU:=zh (Sm.put_any wc R C N (λ _=>none) 1 0 s 0 sS (by omega));clear HC z1 z2 z3 z4 z5 z6 sS iS hH k1 h6 b6 c0 c1 Hu yo te cv1 cv2;go_wp2_with fail;refine nU.out.mono ?_;rintro e wd ⟨rfl,sP,kP⟩;have BF:Sm.inn N (s:Int)=true:=zt ⟨s0,s1⟩;have Ci:=vI.out.two kP sP;unfold Sm.putH Sm.putM at Ci;rw[BF]at Ci;simp only[if_true]at Ci;have hPh:=zh (Hp.put_new2 wd H A2 N (.slice none 0 0) [] Ci.heap s 0 s0 s1 (λ e he=>by simp at he));have Ci:=zh Ci;clear nU vI sP kP BF;go_wp2_with fail;refine hPh.out.mono ?_;rintro e we ⟨rfl,v1,l1,ET,tr1⟩;have BZ:=Ci.out.turn tr1;have jC:l1=[((s:Int),(0:Int))]:=List.perm_singleton.1 ET;subst jC;have DO:Sm.upd (λ _=>none) (s:Int) 0=upd (λ _=>none) (s:Int) (some 0):=rfl;have hm:Sm.manyP ((λ _:Int=>(none:Option Int)) (s:Int)) 0=1:=rfl;rw[DO,hm]at BZ;have Jo:PK (SS w we R C N gS H A2 r6 v1 #[.slice A N c,.slice (some ⟨bv,ov,none⟩) N cG] (upd (λ _=>none) (s:Int) (some 0)) (λ _=>0) [((s:Int),0)] 1/\CF N arcs gone s t Bp [] arcs (upd (λ _=>none) (s:Int) (some 0)) (λ _=>0) [((s:Int),0)]):=⟨BZ,CF.init N arcs gone s t Bp⟩;clear hPh Ci BZ tr1 ET DO hm;have hF0:PK (∀ W,Ac w W->(Bp=true->∀ (k:Nat) (y:Int),Reach arcs gone s k t y->below<=y)->JS N arcs gone s t below Bp w (.returned (.tuple #[.int .u64 0,.bool false])) W):=λ W k hl =>
   ⟨0,false,rfl,k,by omega,λ _=>rfl,(λ h=>by cases h),(λ h=>by cases h),λ _ hg=>.inr (hl hg)⟩
  rcases Ps settles 0 with Np | Np
  ·have hgf:Bp=false:=by rw[<- xo.out];exact zf (by omega)
   have hR:=zh (hF0.out we Jo.out.1.kept (λ hg=>by rw[hgf]at hg;cases hg));clear Jo hF0 xo;go_wp2_with fail;go_step3;go_wp2_with fail;go_loopw [54] (λ i wr=>i=.int .i64 0/\we=wr) (λ _ _=>0)
   case atStart=>exact⟨rfl,rfl⟩
   case round =>
    obtain⟨rfl,rfl⟩:=hrel;go_wp2_with fail;rw[Py];go_ret2;exact hR.out
  ·obtain⟨M,rfl⟩:=Pr Np;go_wp2_with fail;go_step3;go_wp2_with fail;go_loopw [54] (λ i wr=>∃ (k:Nat) (P:List Int) (far:Int->Option Int) (st:Int->Int) (l:List (Int×Int)) (v:Pc) (many:Int),k<=M/\i=.int .i64 k/\P.length=k/\many<=1+31*(k:Int) /\
    PK (SS w wr R C N gS H A2 r6 v #[.slice A N c,.slice (some ⟨bv,ov,none⟩) N cG] far st l many/\CF N arcs gone s t Bp P arcs far st l)) (λ i _=>M-(intOf i).toNat)
   case atStart=>exact⟨0,[],_,_,_,_,1,by omega,rfl,rfl,by omega,Jo⟩
   case round =>
    clear Jo;obtain⟨k,P,far,st,l,v,many,hk,rfl,hPk,zAG,hS⟩:=hrel;have dM:=hS.out.2.few ⟨t0,t1⟩;by_cases AH:k<M
    ·have k0:(0:Int)<=(k:Int):=(by omega);have k1:(k:Int)<(M:Int):=(by omega);rcases l with _ | ⟨⟨v0,d0⟩,l0⟩
     ·have hP:=zh (Hp.pop_none wr H A2 N v hS.out.1.heap);have hR:=zh (hF0.out wr hS.out.1.kept (λ hg k y hr=>(er hS.out.2 hg rC.out hr).elim));clear hS;go_wp2_with fail;refine hP.out.mono ?_;rintro e wq ⟨rfl,rfl⟩;go_wp2_with fail;rw[Py];go_ret2;exact hR.out
     ·have hle:=Hw hS.out.1.heap (e0:=(v0,d0)) rfl;have JM:=hS.out.1.heap.rng (v0,d0) (by simp);obtain⟨vn,rfl⟩:=Pr JM.1;have vN:vn<N:=by have:=JM.2;omega
      have v0':(0:Int)<=(vn:Int):=(by omega);have v1':(vn:Int)<(N:Int):=(by omega);obtain⟨yH,hvP⟩:=(hS.out.2.keys (vn:Int) d0).1 (by simp);obtain⟨kk,hst1,hst2,hrv⟩:=hS.out.2.label _ _ yH;have dI:=hrv.bd rC.out;have fP:0<=d0:=dI.1;have hd1:d0<=30*1125899906842624:=by
       have:kk<=30:=by omega
       have:=dI.2
       omega
      have hP:=zh (Hp.pop_some wr H A2 N v (((vn:Int),d0)::l0) hS.out.1.heap 0 ((vn:Int),d0) rfl hle.1);have HM:=zh hle.2;have HK:=zh hS.out.2;have HFV:=zh yH;have HVP:=zh hvP;have xC:=zh hst1;have HRV:=zh hrv;clear hle JM yH hvP dI hrv hst1;go_wp2_with fail;refine hP.out.mono ?_;rintro e wq ⟨rfl,v2,l2,Jq,tr2⟩;have BZ:=zh (hS.out.1.turn tr2);have OQ:=zh (gN hS.out.1.heap Jq);clear hP Jq tr2 hS;rcases Ps d0 below with hdb | hdb
      ·by_cases hvt:vn=t
       ·subst hvt;have hR:PK (JS N arcs gone s vn below Bp w (.returned (.tuple #[.int .u64 d0,.bool true])) wq) :=
         ⟨d0,true,rfl,BZ.out.kept,fP,(λ h=>by cases h),(λ _=>⟨E1.out,E2.out,hdb,kk,by omega,HRV.out⟩),(λ _ hg k y hr=>Kx HK.out hg rC.out d0 HM.out hr),(λ h=>by cases h)⟩
        go_wp2_with fail;rw[Py];go_ret2;exact hR.out
       ·have hvt':¬ (vn:Int)=(t:Int):=(by omega);have hvq:((vn:Int)==(t:Int))=false:=by simp;omega
        have K1:=zh (HK.out.pop (v:=(vn:Int)) (d:=d0) (by simp) HM.out OQ.out.1 OQ.out.2 ⟨v0',v1'⟩ hvt');have cS:=BZ.out.steps.cell vN;rw[xC.out]at cS;rcases Ps (kk:Int) hops with hh | hh
        ·obtain⟨row,AY⟩:=zx (l:=ls) (i:=vn) (by rw[HLS.out];exact vN);have harc:arcs (vn:Int)=row:=by
          rw[<- HAR.out]
          unfold CP
          rw[if_pos v0',Pq,A_,AY]
          rfl
         have hm30:row.length<=30:=H30.out _ (zm AY);obtain⟨bA,oA,Ai,ci,hA,hbA,cA,hRA⟩:=HE.out vn row AY;replace cA:=BZ.out.kept.cell cA;subst hA;have c0:=BZ.out.box.cell 0;simp at c0;obtain⟨m,hm⟩:=zn (row.length);rw[hm]at cA hm30;have HM2:=zh hm;have iy:=zh hRA;have HArc:=zh harc;have vF:PK (∀ p∈P++[(vn:Int)],∃ x,far p=some x/\x<=d0):=zh (λ p hp=>by
          rcases Pa.1 hp with hp | hp
          ·obtain⟨x,h1,h2⟩:=HK.out.done p hp;exact⟨x,h1,h2 ((vn:Int),d0) (by simp)⟩
          ·rw[N_]at hp;subst hp;exact⟨d0,HFV.out,Int.le_refl _⟩)
         have hIn:=Gt BZ.out K1.out vF.out HFV.out xC.out;clear BZ K1 HK vF AY harc hm hRA OQ HM HFV xC;go_wp2_with fail;go_loopw [88] (λ i wi=>∃ (j:Nat) (Dc:Int->Option Int) (LD:Int->Int) (l':List (Int×Int)) (v':Pc) (Bn:Int),j<=m/\i=.int .i64 j/\Bn<=1+31*(k:Int)+(j:Int) /\
          PK (Gv wi Ai row/\SS w wi R C N gS H A2 r6 v' #[.slice (some ⟨bA,oA,none⟩) N c,.slice (some ⟨bv,ov,none⟩) N cG] Dc LD l' Bn/\CF N arcs gone s t Bp (P++[(vn:Int)]) (upd arcs (vn:Int) (row.take j)) Dc LD l' /\
           (∀ p∈P++[(vn:Int)],∃ x,Dc p=some x/\x<=d0)/\Dc (vn:Int)=some d0/\LD (vn:Int)=(kk:Int))) (λ i _=>m-(intOf i).toNat)
         case atStart=>exact⟨0,far,st,l2,v2,many,by omega,rfl,by omega,⟨iy.out.grew hIn.out.1.kept,hIn.out⟩⟩
         case round =>
          clear hIn;obtain⟨j,Dc,LD,l',v',Bn,hj,rfl,zA4,hI⟩:=hrel;by_cases hjm:j<m
          ·have j0:(0:Int)<=(j:Int):=(by omega);have j1:(j:Int)<(m:Int):=(by omega);obtain⟨⟨u,cc⟩,hux⟩:∃ x,row[j]? = some x:=⟨_,zq (by rw[HM2.out];exact hjm)⟩;have dP:(u,cc)∈arcs (vn:Int):=by rw[HArc.out];exact zm hux
           obtain⟨u0,u1,cc0,Mf⟩:=rC.out.arc _ _ _ dP;obtain⟨un,rfl⟩:=Pr u0;have uN:un<N:=(by omega);have LW:row.take j++[((un:Int),cc)]=row.take (j+1):=by rw[List.take_add_one,hux];rfl
           obtain⟨b2,o2,hAi,FY,ca0,ca1⟩:=hI.out.1 j _ hux;subst hAi;obtain⟨gg,jA⟩:=zx (l:=gs) (i:=un) (by rw[HGS.out];exact uN);have Km:gone (un:Int)=gg:=by rw[<- HGN.out];unfold Bk;rw[Pq,A_,jA];rfl
           obtain⟨bw,ow,hW,hbw,cw⟩:=HGo.out.grew hI.out.2.1.kept un gg jA;cases hW;have yk:Ac wr (wr.alloc (.cells #[.int .i64 (un:Int),.int .u64 cc] 419)):=(zr _ _).alloc _;have bE:=zv wr 419 #[.int .i64 (un:Int),.int .u64 cc];have vJ:=zh (hI.out.2.1.grew yk);have cb0:=vJ.out.box.cell 0;have cb1:=vJ.out.box.cell 1;have e0:=bE.cell 0;have e1:=bE.cell 1;simp at cb0 cb1 e0 e1;have cw':=yk.cell cw;have Is:=zh hI.out.2.2;have HRA:=zh (hI.out.1.grew yk);have HU:=zh LW;have HME:=zh dP;have HGU:=zh Km;have Df:=hI.out.2.1.kept.size;have jo:=hI.out.2.1.stamp.row.lt;have cj:C<wr.heap.size:=hI.out.2.1.stamp.cells.elim λ _ h=>h.1.lt;clear hI LW dP Km hux jA cw;cases gg with
           | true =>
            have hN:=Is.out.1.skip (u:=(un:Int)) (c:=cc) Is.out.2.2.1 (.inl HGU.out);rw[HU.out]at hN;have hN:=zh hN;go_wp2_with fail;exact⟨⟨j+1,Dc,LD,l',v',Bn,by omega,rfl,by omega,⟨HRA.out,vJ.out,hN.out,Is.out.2⟩⟩,by simp[intOf];omega⟩
           | false =>
            have jE:Bn<1000000:=(by omega);have hL:=zh (Sm.least_any _ R C N Dc 1 Bn (un:Int) (d0+cc) vJ.out.stamp jE);have Mu:=Ja N Dc (un:Int) (d0+cc) Bn (by omega) u1;obtain⟨ml,hml'⟩:∃ x,Sm.leastM N Dc (un:Int) (d0+cc) Bn=x:=⟨_,rfl⟩;rw[hml']at hL Mu;clear hml';have hnT:¬ Sm.Two R C wr.heap.size:=λ h=>by
             rcases h with h | h<;>omega
            rcases Mu with ⟨Lx,hx,hh',OW⟩ | ⟨Lx,hx,hh',OW⟩
            ·rw[Lx,hh']at hL;clear Lx hh';have hfr:=Is.out.1.fresh Is.out.2.1 cc0 hx;have Bm:(vn:Int)≠(un:Int):=λ e=>hfr (e▸by simp);have hP5:PK (∀ p∈P++[(vn:Int)],∃ x,upd Dc (un:Int) (some (d0+cc)) p=some x/\x<=d0):=zh (λ p hp=>by
              rw[AA _ _ (λ e=>hfr (by rw[<- e];exact hp))]
              exact Is.out.2.1 p hp)
             have hf5:PK (upd Dc (un:Int) (some (d0+cc)) (vn:Int)=some d0):=zh (by rw[AA _ _ Bm];exact Is.out.2.2.1);have lV:PK (upd LD (un:Int) ((kk:Int)+1) (vn:Int)=(kk:Int)):=zh (by rw[AA _ _ Bm];exact Is.out.2.2.2);have HX:=zh hx;have HFR:=zh hfr;clear hx hfr Bm;go_wp2_with fail;refine hL.out.mono ?_;rintro e w3 ⟨rfl,sL,kL⟩;have Jo:=zh (vJ.out.two kL sL);have rE:=bE.kept kL hnT;have nU:=zh (uC w3 H A2 v' l' Jo.out.heap Is.out.1 (un:Int) (d0+cc) (by omega) u1 HFR.out HX.out);clear hL vJ bE kL sL yk e0 e1 cb0 cb1 cw' ca0 ca1;obtain⟨e0,e1⟩:=CE rE;go_wp2_with fail;refine nU.out.mono ?_;rintro e w4 ⟨rfl,v4,l4,hm4,tr4⟩;have E4:=zh (Jo.out.turn tr4);have bE4:=rE.kept tr4.kept (Jo.out.heap.apart rE (by decide) (by decide) (by decide));have hK5:=Is.out.1.take Is.out.2.1 fP Is.out.2.2.1 Is.out.2.2.2 (by omega) HME.out cc0 HGU.out HX.out hm4;rw[HU.out]at hK5;have hK5:=zh hK5;have cv:=E4.out.steps.cell vN;rw[Is.out.2.2.2]at cv;clear nU Jo rE hm4 tr4 e0 e1 Is HX HFR HRA;have e0:=bE4.cell 0;simp at e0;have Lw:=zh ((E4.out.step uN ((kk:Int)+1)).grew (zr _ _).drew);have hSd:=zh (E4.out.grew (zr _ _).drew);go_upto_region 18 with fail;refine rG [9] (λ _=>False) ?_;refine pG 0 117 ?_;refine pG 1 118 ?_;refine tG 2 119 (y:=λ w' Ah=>by have AM:=ze Ah (show w4.drew.cell? ⟨wr.heap.size,0,none⟩=some (.int .i64 (un:Int)) from e0);have AX:=ze Ah (show w4.drew.cell? ⟨gS,vn,none⟩=some (.int .i64 (kk:Int)) from cv);go_simp<;>with_reducible rfl) (h:=?_);refine pG 3 120 ?_;refine pG 4 121 ?_;refine pG 5 122 ?_;refine tG 6 123 (y:=λ w' Ah=>by have AM:=ze Ah (show w4.drew.cell? ⟨wr.heap.size,0,none⟩=some (.int .i64 (un:Int)) from e0);have AX:=ze Ah (show w4.drew.cell? ⟨gS,vn,none⟩=some (.int .i64 (kk:Int)) from cv);go_simp<;>with_reducible rfl) (h:=?_);refine pG 7 124 ?_;refine pG 8 125 ?_;refine DH 9 (λ K Aj=>?_);have hfz:=hSd.out.steps.frozen un;have dJ:=hSd.out.steps.cell uN;go_simp;refine Aj _ (λ h=>absurd (by simp) h) ?_;clear Aj;refine dG ?_;go_wp2_with fail;go_roundw
             case rel =>
              exact⟨j+1,upd Dc (un:Int) (some (d0+cc)),upd LD (un:Int) ((kk:Int)+1),l4,v4,ml,by omega,by go_num,by omega,⟨iy.out.grew Lw.out.kept,Lw.out,hK5.out,hP5.out,hf5.out,lV.out⟩⟩
             case measure=>simp[intOf];omega
            ·rw[Lx,hh']at hL;clear Lx hh';have hN:=Is.out.1.skip (u:=(un:Int)) (c:=cc) Is.out.2.2.1 (.inr hx);rw[HU.out]at hN;have hN:=zh hN;clear hx;go_wp2_with fail;refine hL.out.mono ?_;rintro e w3 ⟨rfl,sL,kL⟩;have Jo:=zh (vJ.out.two kL sL);clear vJ kL sL;go_wp2_with fail;go_roundw
             case rel =>
              exact⟨j+1,Dc,LD,l',v',ml,by omega,by go_num,by omega,⟨iy.out.grew Jo.out.kept,Jo.out,hN.out,Is.out.2⟩⟩
             case measure=>simp[intOf];omega
          ·obtain rfl:j=m:=(by omega);have hN:=hI.out.2.2.1;rw[List.take_of_length_le (by rw[HM2.out];exact zl _),<-HArc.out]at hN;have hN:=BP hI.out.2.1 hN.all;clear hI;go_wp2_with fail;exact⟨⟨k+1,P++[(vn:Int)],Dc,LD,l',v',Bn,by omega,rfl,by simp[hPk],by omega,hN⟩,by simp[intOf];omega⟩
        ·have hgf:Bp=false:=by
          rw[<- xo.out];exact zf (by omega)
         have hSK:=BP BZ.out (K1.out.stop hgf);go_wp2_with fail;exact⟨⟨k+1,P++[(vn:Int)],far,st,l2,v2,many,by omega,rfl,by simp[hPk],by omega,hSK⟩,by simp[intOf];omega⟩
      ·have hR:=zh (hF0.out wq BZ.out.kept (λ hg k y hr=>Int.le_trans hdb (Kx HK.out hg rC.out d0 HM.out hr)));go_wp2_with fail;rw[Py];go_ret2;exact hR.out
    ·obtain rfl:k=M:=(by omega);have hR:=zh (hF0.out wr hS.out.1.kept (λ hg=>by
      have h:=xo.out
      rw[hg]at h
      have:=of_decide_eq_true h
      omega))
     clear hS;go_wp2_with fail;rw[Py];go_ret2;exact hR.out
def ma (s:Sc):List Pc:=[i64 s.from',i64 s.to',.int .u64 s.w,i64 s.edge,i64 s.a,i64 s.b]
def Db (ss:List Sc):List Pc:=ss.flatMap ma
theorem J5 (ss:List Sc):(Db ss).length=ss.length*6:=by
 induction ss with
 | nil=>rfl
 | cons e es ih=>simp only[Db,H_,F_,List.length_cons]at ih ⊢;rw[ih];simp[ma];omega
theorem OC (ss:List Sc) (s:Sc):Db (ss++[s])=Db ss++ma s:=by simp[Db,List.flatMap_append]
theorem Gy:∀ (ss:List Sc) (i j:Nat) (s:Sc),ss[i]? = some s->j<6->(Db ss)[i*6+j]? = (ma s)[j]?
 | [],i,j,e,h,_=>by simp at h
 | x::l,0,j,e,h,hj=>by
  simp only[List.getElem?_cons_zero,Option.some.injEq]at h;subst h;rw[Db,H_,Nat.zero_mul,PD,List.getElem?_append_left (by simp[ma];omega)]
 | x::l,i+1,j,e,h,hj=>by
  rw[K_]at h;have ih:=Gy l i j e h hj;have e2:(ma x).length=6:=rfl;rw[Db,H_,List.getElem?_append_right (by omega),e2,show (i+1)*6+j-6=i*6+j by omega];exact ih
def Fz (w:Pb) (B:Nat) (v:Pc) (ss:List Sc):Prop:=w.ownsRow B 150 6 v ss.length (Db ss)
theorem Fz.row {w:Pb} {B:Nat} {v:Pc} {ss:List Sc} (h:Fz w B v ss):∃ A c,v=.slice A ss.length c/\EW w A ss/\ss.length<=c:=by
 rcases h.2 with ⟨hv,h0⟩ | ⟨g,cap,cur,hv,hb,hg,Bg,hm,Df,LW⟩
 ·have:=List.eq_nil_of_length_eq_zero h0;subst this;exact⟨none,0,hv,λ i s hs=>by simp at hs,zl _⟩
 ·refine⟨_,cap,hv,λ i s hs=>?_,Bg⟩;have hi:=(C_.1 hs).1;have key:∀ j,j<6->w.cell? ⟨g,i*6+j,none⟩=(ma s)[j]? := λ j hj=>by
   have h1:=Gy ss i j s hs hj
   rw[<- LW,J_ (by omega)]at h1
   rw[show w.cell? ⟨g,i*6+j,none⟩=cur[i*6+j]? from (show Am w g 150 cur from hg).cell _,<-h1]
   simp
  refine⟨g,0,rfl,(Pz.1 hg).1,?_⟩;rw[PD];exact⟨key 0 (by omega),key 1 (by omega),key 2 (by omega),key 3 (by omega),key 4 (by omega),key 5 (by omega)⟩
structure Bf (w:Pb) (X B:Nat) (K:Nat->Prop) (N:Nat) (mf:Int×Int->Option Nat) (rf:Nat->List Ar) (ss:List Sc) (gs:List Bool) (ds:List Int) (hops settles:Int) (B4:Pc) (O G D M:Nat) (sv:Pc) (vs:List Pc) (n:Nat):Prop where
 blk:Am w X 351 #[.slice (some ⟨O,0,none⟩) N N,.slice (some ⟨G,0,none⟩) N N,.map (some M),sv,i64 hops,i64 settles,B4,.slice (some ⟨D,0,none⟩) N N]
 outs:Am w O 413 vs.toArray
 len:vs.length=N
 rows:∀ (i:Nat) (v:Pc),vs[i]? = some v->CO w B v (rf i)
 apart:∀ (i j:Nat) (v u:Pc) (b:Nat),vs[i]? = some v->vs[j]? = some u->v.ownBlock=some b->u.ownBlock=some b->i=j
 gone:Am w G 4 (gs.map PM).toArray
 glen:gs.length=N
 deep:Am w D 3 (ds.map i64).toArray
 dlen:ds.length=N
 map:F6 w M n mf
 cuts:Fz w B sv ss
 base:∀ j,(j=X\/j=O\/j=G\/j=D\/j=M\/sv.ownBlock=some j\/∃ v∈vs,v.ownBlock=some j)->B<=j/\¬ K j
def Core (w:Pb) (X B:Nat) (K:Nat->Prop) (N:Nat) (ss:List Sc) (gs:List Bool) (ds:List Int) (hops settles:Int) (B4:Pc):Prop:=∃ O G D M sv vs n,Bf w X B K N (λ p=>atF ss p.1 p.2) (λ i=>AS ss (i:Int)) ss gs ds hops settles B4 O G D M sv vs n
abbrev CK (B:Nat) (K:Nat->Prop):Nat->Prop:=λ j=>B<=j/\¬ K j
section
variable {w w':Pb} {X B:Nat} {K K' F:Nat->Prop} {N:Nat} {mf mf':Int×Int->Option Nat} {rf:Nat->List Ar} {ss Ju:List Sc} {gs:List Bool} {ds:List Int} {hops settles:Int} {B4:Pc} {O G D M:Nat} {sv lp:Pc} {vs:List Pc} {n n':Nat}
theorem Bf.kept (h:Bf w X B K N mf rf ss gs ds hops settles B4 O G D M sv vs n) (k:Kept F w w') (hF:∀ j,(j=X\/j=O\/j=G\/j=D\/j=M\/sv.ownBlock=some j\/∃ v∈vs,v.ownBlock=some j)->¬ F j):Bf w' X B K N mf rf ss gs ds hops settles B4 O G D M sv vs n where
 blk:=h.blk.kept k (hF _ (by simp))
 outs:=h.outs.kept k (hF _ (by simp))
 len:=h.len
 rows:=λ i v hv=>(h.rows i v hv).kept k λ j hj=>hF j (.inr (.inr (.inr (.inr (.inr (.inr ⟨v,zm hv,hj⟩))))))
 apart:=h.apart
 gone:=h.gone.kept k (hF _ (by simp))
 glen:=h.glen
 deep:=h.deep.kept k (hF _ (by simp))
 dlen:=h.dlen
 map:=h.map.kept k (hF _ (by simp))
 cuts:=Kept.own k h.cuts λ j hj=>hF j (.inr (.inr (.inr (.inr (.inr (.inl hj))))))
 base:=h.base
theorem Bf.lt (h:Bf w X B K N mf rf ss gs ds hops settles B4 O G D M sv vs n) {j:Nat} (hj:j=X\/j=O\/j=G\/j=D\/j=M\/sv.ownBlock=some j\/∃ v∈vs,v.ownBlock=some j):j<w.heap.size:=by
 rcases hj with rfl | rfl | rfl | rfl | rfl | h1 | ⟨v,hv,h1⟩
 ·exact h.blk.lt
 ·exact h.outs.lt
 ·exact h.gone.lt
 ·exact h.deep.lt
 ·exact h.map.lt
 ·obtain⟨_,c,hc⟩:=Ao h.cuts h1;exact(Pz.1 hc).1
 ·obtain⟨i,hi⟩:=B_.1 hv;obtain⟨_,c,hc⟩:=Ao (h.rows i v hi) h1;exact(Pz.1 hc).1
theorem Bf.grew (h:Bf w X B K N mf rf ss gs ds hops settles B4 O G D M sv vs n) (k:Ac w w'):Bf w' X B K N mf rf ss gs ds hops settles B4 O G D M sv vs n:=h.kept k λ _ _ h=>h
theorem Core.grew (h:Core w X B K N ss gs ds hops settles B4) (k:Ac w w'):Core w' X B K N ss gs ds hops settles B4:=by
 obtain⟨O,G,D,M,sv,vs,n,h⟩:=h;exact⟨O,G,D,M,sv,vs,n,h.grew k⟩
theorem Core.sub (h:Core w X B K N ss gs ds hops settles B4) (hK:∀ j,K' j->K j):Core w X B K' N ss gs ds hops settles B4:=by
 obtain⟨O,G,D,M,sv,vs,n,h⟩:=h;exact⟨O,G,D,M,sv,vs,n,{ h with base:=λ j hj=>⟨(h.base j hj).1,λ hk=>(h.base j hj).2 (hK j hk)⟩ }⟩
theorem Core.guard (h:Core w X B K N ss gs ds hops settles B4) (k:Ac w w'):Core w' X B (λ j=>K j\/(w.heap.size<=j/\j<w'.heap.size)) N ss gs ds hops settles B4:=by
 obtain⟨O,G,D,M,sv,vs,n,h⟩:=h;refine⟨O,G,D,M,sv,vs,n,{ h.grew k with base:=λ j hj=>⟨(h.base j hj).1,λ hk=>?_⟩ }⟩;rcases hk with hk | hk
 ·exact(h.base j hj).2 hk
 ·have:=h.lt hj;omega
theorem Ax {b0 b1 n0 s0:Nat} {e0 t:TypeId} {v:Pc} {xs:List Pc} {cs:Array Pc} (h:w.ownsRow b0 e0 s0 v n0 xs) (hb:Am w b1 t cs) (ht:e0≠t):¬ v.ownBlock=some b1:=λ e=>by
 obtain⟨_,c,hc⟩:=Ao h e;exact Ay (show Am w b1 e0 c from hc) hb ht rfl
theorem Fc {b0 n0 s0 M n:Nat} {e0:TypeId} {v:Pc} {xs:List Pc} {mf:Int×Int->Option Nat} (h:w.ownsRow b0 e0 s0 v n0 xs) (hm:F6 w M n mf):¬ v.ownBlock=some M:=λ e=>by
 obtain⟨_,c,hc⟩:=Ao h e;exact hm.noBlk (show Am w M e0 c from hc) rfl
theorem Bf.toMap (h:Bf w X B K N mf rf ss gs ds hops settles B4 O G D M sv vs n) (k:Kept (·=M) w w') (hm:F6 w' M n' mf'):Bf w' X B K N mf' rf ss gs ds hops settles B4 O G D M sv vs n' where
 blk:=h.blk.kept k λ e=>h.map.noBlk h.blk e.symm
 outs:=h.outs.kept k λ e=>h.map.noBlk h.outs e.symm
 len:=h.len
 rows:=λ i v hv=>(h.rows i v hv).kept k λ j hj e=>Fc (h.rows i v hv) h.map (by rw[hj,e])
 apart:=h.apart
 gone:=h.gone.kept k λ e=>h.map.noBlk h.gone e.symm
 glen:=h.glen
 deep:=h.deep.kept k λ e=>h.map.noBlk h.deep e.symm
 dlen:=h.dlen
 map:=hm
 cuts:=Kept.own k h.cuts λ j hj e=>Fc h.cuts h.map (by rw[hj,e])
 base:=h.base
theorem Bf.toCuts (h:Bf w X B K N mf rf ss gs ds hops settles B4 O G D M sv vs n) (k:Kept (λ j=>sv.ownBlock=some j) w w') (ho:Fz w' B lp Ju) (hb:∀ j,lp.ownBlock=some j->sv.ownBlock=some j\/w.heap.size<=j) (hK:∀ j,K j->j<w.heap.size):Bf (w'.setCell ⟨X,3,none⟩ lp) X B K N mf rf Ju gs ds hops settles B4 O G D M lp vs n:=by
 have b1:=h.blk.kept k (Ax h.cuts h.blk (by decide));have o1:=h.outs.kept k (Ax h.cuts h.outs (by decide));have g1:=h.gone.kept k (Ax h.cuts h.gone (by decide));have d1:=h.deep.kept k (Ax h.cuts h.deep (by decide));have m1:=h.map.kept k (Fc h.cuts h.map);have r1:∀ i v,vs[i]? = some v->CO w' B v (rf i):=λ i v hv=>(h.rows i v hv).kept k λ j hj e=>Dt h.cuts (h.rows i v hv) (by decide) e hj;have kX:Kept (·=X) w' (w'.setCell ⟨X,3,none⟩ lp):=(zr (·=X) w').setCell (p:=⟨X,3,none⟩) (.inl rfl) _;refine⟨?_,o1.kept kX (Ay o1 b1 (by decide)),h.len,λ i v hv=>(r1 i v hv).kept kX λ j hj e=>Ax (r1 i v hv) b1 (by decide) (by rw[hj,e]),h.apart,g1.kept kX (Ay g1 b1 (by decide)),h.glen,d1.kept kX (Ay d1 b1 (by decide)),h.dlen,m1.kept kX (m1.noBlk b1),Kept.own kX ho λ j hj e=>Ax ho b1 (by decide) (by rw[hj,e]),λ j hj=>?_⟩
 ·have:=b1.set 3 lp;simpa using this
 ·rcases hj with hj | hj | hj | hj | hj | hj | hj
  ·exact h.base j (.inl hj)
  ·exact h.base j (.inr (.inl hj))
  ·exact h.base j (.inr (.inr (.inl hj)))
  ·exact h.base j (.inr (.inr (.inr (.inl hj))))
  ·exact h.base j (.inr (.inr (.inr (.inr (.inl hj)))))
  ·rcases hb j hj with h1 | h1
   ·exact h.base j (.inr (.inr (.inr (.inr (.inr (.inl h1))))))
   ·exact⟨(Ao ho hj).1,λ hk=>by have:=hK j hk;omega⟩
  ·exact h.base j (.inr (.inr (.inr (.inr (.inr (.inr hj))))))
def uQ (rf:Nat->List Ar) (u:Nat) (l:List Ar):Nat->List Ar:=λ i=>if i=u then l else rf i
theorem Bf.toRow {u:Nat} {v v':Pc} {l:List Ar} (h:Bf w X B K N mf rf ss gs ds hops settles B4 O G D M sv vs n) (hv:vs[u]? = some v) (k:Kept (λ j=>v.ownBlock=some j) w w') (ho:CO w' B v' l) (hb:∀ j,v'.ownBlock=some j->v.ownBlock=some j\/w.heap.size<=j) (hK:∀ j,K j->j<w.heap.size):Bf (w'.setCell ⟨O,u,none⟩ v') X B K N mf (uQ rf u l) ss gs ds hops settles B4 O G D M sv (vs.set u v') n:=by
 have hr:=h.rows u v hv;have hu:=(C_.1 hv).1;have b1:=h.blk.kept k (Ax hr h.blk (by decide));have o1:=h.outs.kept k (Ax hr h.outs (by decide));have g1:=h.gone.kept k (Ax hr h.gone (by decide));have d1:=h.deep.kept k (Ax hr h.deep (by decide));have m1:=h.map.kept k (Fc hr h.map);have c1:Fz w' B sv ss:=Kept.own k h.cuts λ j hj e=>Dt hr h.cuts (by decide) e hj;have r1:∀ i x,i≠u->vs[i]? = some x->CO w' B x (rf i):=λ i x hi hx=>(h.rows i x hx).kept k λ j hj e=>hi (h.apart i u x v j hx hv hj e);have kO:Kept (·=O) w' (w'.setCell ⟨O,u,none⟩ v'):=(zr (·=O) w').setCell (p:=⟨O,u,none⟩) (.inl rfl) _;have get:∀ i x,(vs.set u v')[i]? = some x->(i=u/\x=v')\/(i≠u/\vs[i]? = some x):=λ i x hx=>by
  by_cases hi:i=u
  ·subst hi;rw[D_ hu]at hx;exact .inl ⟨rfl,(PC hx).symm⟩
  ·rw[E_ (λ e=>hi e.symm)]at hx;exact .inr ⟨hi,hx⟩
 refine⟨b1.kept kO (Ay b1 o1 (by decide)),?_,by rw[List.length_set];exact h.len,λ i x hx=>?_,λ i j x y b hx hy zI hyb=>?_,g1.kept kO (Ay g1 o1 (by decide)),h.glen,d1.kept kO (Ay d1 o1 (by decide)),h.dlen,m1.kept kO (m1.noBlk o1),Kept.own kO c1 λ j hj e=>Ax c1 o1 (by decide) (by rw[hj,e]),λ j hj=>?_⟩
 ·have:=o1.set u v';simpa using this
 ·unfold uQ;rcases get i x hx with ⟨rfl,rfl⟩ | ⟨hi,hx⟩
  ·rw[if_pos rfl];exact ho.kept kO λ j hj e=>Ax ho o1 (by decide) (by rw[hj,e])
  ·rw[if_neg hi];exact(r1 i x hi hx).kept kO λ j hj e=>Ax (r1 i x hi hx) o1 (by decide) (by rw[hj,e])
 ·rcases get i x hx with ⟨hi,AX⟩ | ⟨hi,AX⟩
  ·rcases get j y hy with ⟨hj,Br⟩ | ⟨hj,Br⟩
   ·exact hi.trans hj.symm
   ·rw[AX]at zI;rcases hb b zI with h1 | h1
    ·exact hi.trans (h.apart u j v y b hv Br h1 hyb)
    ·have:=h.lt (j:=b) (.inr (.inr (.inr (.inr (.inr (.inr ⟨y,zm Br,hyb⟩))))));omega
  ·rcases get j y hy with ⟨hj,Br⟩ | ⟨hj,Br⟩
   ·rw[Br]at hyb;rcases hb b hyb with h1 | h1
    ·exact(h.apart i u x v b AX hv zI h1).trans hj.symm
    ·have:=h.lt (j:=b) (.inr (.inr (.inr (.inr (.inr (.inr ⟨x,zm AX,zI⟩))))));omega
   ·exact h.apart i j x y b AX Br zI hyb
 ·rcases hj with hj | hj | hj | hj | hj | hj | ⟨x,hx,hj⟩
  ·exact h.base j (.inl hj)
  ·exact h.base j (.inr (.inl hj))
  ·exact h.base j (.inr (.inr (.inl hj)))
  ·exact h.base j (.inr (.inr (.inr (.inl hj))))
  ·exact h.base j (.inr (.inr (.inr (.inr (.inl hj)))))
  ·exact h.base j (.inr (.inr (.inr (.inr (.inr (.inl hj))))))
  ·obtain⟨i,hi⟩:=B_.1 hx;rcases get i x hi with ⟨rfl,rfl⟩ | ⟨hi,hx⟩
   ·rcases hb j hj with h1 | h1
    ·exact h.base j (.inr (.inr (.inr (.inr (.inr (.inr ⟨v,zm hv,h1⟩))))))
    ·exact⟨(Ao ho hj).1,λ hk=>by have:=hK j hk;omega⟩
   ·exact h.base j (.inr (.inr (.inr (.inr (.inr (.inr ⟨x,zm hx,hj⟩))))))
theorem Bf.congr {rf':Nat->List Ar} (h:Bf w X B K N mf rf ss gs ds hops settles B4 O G D M sv vs n) (h1:∀ p,mf' p=mf p) (h2:∀ i,rf' i=rf i):Bf w X B K N mf' rf' ss gs ds hops settles B4 O G D M sv vs n:=by
 rw[show mf'=mf from funext h1,show rf'=rf from funext h2];exact h
theorem Bf.net (h:Bf w X B K N mf rf ss gs ds hops settles B4 O G D M sv vs n):cP w (some ⟨O,0,none⟩) ((O_ N).map rf):=by
 intro i l hl;have hi:i<N:=by have:=(C_.1 hl).1;simpa using this
 rw[G_,M_ hi]at hl;obtain rfl:=PC hl;obtain⟨v,hv⟩:=zx (l:=vs) (i:=i) (by rw[h.len];exact hi);obtain⟨A,c,rfl,hA,_⟩:=(h.rows i v hv).row;refine⟨O,0,A,c,rfl,h.outs.lt,?_,hA⟩;rw[PD,h.outs.cell];simpa using hv
theorem Bf.gones (h:Bf w X B K N mf rf ss gs ds hops settles B4 O G D M sv vs n):LJ w (some ⟨G,0,none⟩) gs:=by
 intro i g hg;refine⟨G,0,rfl,h.gone.lt,?_⟩;rw[PD,h.gone.cell];simp[hg]
theorem Nt:(Pf.info? 150).map (λ i=>(i.zero,i.size,i.bytes))=some (some (.agg #[i64 0,i64 0,u64 0,i64 0,i64 0,i64 0]),6,48):=by kernel_rfl
theorem O8:(Pf.info? 419).map (λ i=>(i.zero,i.size,i.bytes))=some (some (.agg #[i64 0,u64 0]),2,16):=by kernel_rfl
theorem tc (p q r s t u:Pc):Instr.fill (λ i=>some (i*6,6)) ((Array.range (1*6)).map ((Value.agg #[i64 0,i64 0,u64 0,i64 0,i64 0,i64 0]).cells[·%(Value.agg #[i64 0,i64 0,u64 0,i64 0,i64 0,i64 0]).cells.size]!)) [(0,.agg #[p,q,r,s,t,u])]=some #[p,q,r,s,t,u]:=by kernel_rfl
theorem zA1 {o:Oper} {a:Act} {w:Pb} {K:Act->Pb->Prop} {Q:Exit->Act->Pb->Prop} (parts:Array (Nat×Operand)) (ho:o.op=.buildSlice 85 1 parts)
  (p q r s t u:Pc) (hp:(parts.map λ (i,x)=>(i,a.eval x)).toList=[(0,.agg #[p,q,r,s,t,u])])
  (h:K (a.put o.dst (.slice (some ⟨w.heap.size,0,none⟩) 1 1)) (w.alloc (.cells #[p,q,r,s,t,u] 150))):o.wp Pf a w K Q:=by
 obtain⟨i0,hi,Cu,BV,Cj⟩:=info_parts Nt
 refine wp_buildSlice 85 150 1 parts ho #[p,q,r,s,t,u] i0 _ Ph hi Cu (by rw[BV];decide) (by rw[BV];decide) ?_ h
 rw[hp,BV]
 exact tc p q r s t u
theorem ku (N:Nat) (ss:List Sc) (BF:∀ s∈ss,inN N s):CP ((O_ N).map λ (i:Nat)=>AS ss (i:Int))=AS ss:=by
 funext v;unfold CP;have none:¬ (0<=v/\v<(N:Int))->AS ss v=[]:=λ hv=>by
  cases ho:AS ss v with
  | nil=>rfl
  | cons a l =>
   obtain⟨s,hs,h1,_⟩:=Fb (ss:=ss) (u:=v) (t:=a.1) (a:=a.2) (by rw[ho];simp);have:=BF s hs;unfold inN at this;omega
 by_cases h0:0<=v
 ·rw[if_pos h0];by_cases h1:v<(N:Int)
  ·have hv:v.toNat<N:=(by omega);rw[A_,G_,M_ hv];simp only[Option.map_some,PF];rw[Int.toNat_of_nonneg h0]
  ·rw[A_,List.getElem?_eq_none (by simp;omega),none (by omega)];rfl
 ·rw[if_neg h0,none (by omega)]
end
def Jm (w:Pb) (A:Option Pd) (xs:List Pc):Prop:=∀ (i:Nat) (x:Pc),xs[i]? = some x->∃ b off,A=some ⟨b,off,none⟩/\b<w.heap.size/\w.cell? ⟨b,off+i,none⟩=some x
theorem Jm.grew {w w':Pb} {A:Option Pd} {xs:List Pc} (h:Jm w A xs) (k:Ac w w'):Jm w' A xs:=λ i x hx=>by
 obtain⟨b,off,hA,hb,hc⟩:=h i x hx;exact⟨b,off,hA,PE hb k.size,k.cell hc⟩
theorem Jm.news {w:Pb} {a:Pd} {xs:List Pc} (h:Jm w (some a) xs):∀ j u,xs[j]? = some u->w.cell? (a.add j)=some u:=λ j u hj=>by
 obtain⟨b,off,hA,_,hc⟩:=h j u hj;cases hA;have ha:(⟨b,off,none⟩:Pd).add j=⟨b,off+j,none⟩:=by unfold Addr.add;split<;>simp_all
 rw[ha];exact hc
theorem RowI.rowV {w:Pb} {A:Option Pd} {zs:List Int} (h:RowI w A zs):Jm w A (zs.map i64):=λ i x hx=>by
 rw[G_]at hx;obtain⟨z,hz,rfl⟩:=PJ.1 hx;exact h i z hz
theorem LJ.rowV {w:Pb} {A:Option Pd} {gs:List Bool} (h:LJ w A gs):Jm w A (gs.map PM):=λ i x hx=>by
 rw[G_]at hx;obtain⟨z,hz,rfl⟩:=PJ.1 hx;exact h i z hz
theorem EW.rowV {w:Pb} {A:Option Pd} {ss:List Sc} (h:EW w A ss):Jm w A (Db ss):=λ j u hj=>by
 have hl:j<ss.length*6:=by rw[<- J5];exact(C_.1 hj).1
 obtain⟨i,r,rfl,hr⟩:∃ i r,j=i*6+r/\r<6:=⟨j/6,j%6,by omega,by omega⟩;obtain⟨s,hs⟩:=zx (l:=ss) (i:=i) (by omega);rw[Gy ss i r s hs hr]at hj;obtain⟨b,off,hA,hb,c0,c1,c2,c3,c4,c5⟩:=h i s hs;refine⟨b,off,hA,hb,?_⟩;rw[<- Nat.add_assoc];rcases(show r=0\/r=1\/r=2\/r=3\/r=4\/r=5 by omega) with rfl | rfl | rfl | rfl | rfl | rfl<;>simp[ma]at hj<;>subst hj
 ·exact c0
 ·exact c1
 ·exact c2
 ·exact c3
 ·exact c4
 ·exact c5
theorem IT (w:Pb) (B:Nat) (t:TypeId) (sz:Nat) (hB:B<=w.heap.size):(w.alloc (.cells #[] t)).ownsRow B t sz (.slice (some ⟨w.heap.size,0,none⟩) 0 0) 0 [] :=
 ⟨by simp,.inr ⟨w.heap.size,0,#[],rfl,hB,heap_alloc_new w _,zl _,by unfold maxLen;omega,by simp,by simp⟩⟩
theorem cX (ss:List Sc):∀ u∈Db ss,u.oneCell'=true:=by
 intro u hu;simp only[Db,List.mem_flatMap]at hu;obtain⟨e,_,he⟩:=hu;simp[ma]at he;rcases he with rfl | rfl | rfl | rfl | rfl | rfl<;>rfl
theorem JN {α:Type} (f:α->Pc) (hf:∀ a,(f a).oneCell'=true) (l:List α):∀ u∈l.map f,u.oneCell'=true:=λ u hu=>by
 obtain⟨a,_,rfl⟩:=L_.1 hu;exact hf a
theorem xX (A:Option Pd) (c n:Nat) (xs:List Pc) (w:Pb) (h:Jm w A xs) (hn:xs.length=n*1) (hl:n<=100000) (h1:∀ u∈xs,u.oneCell'=true) :
  Pe Pf 81 #[.slice A n c] w λ e w'=>∃ v,e=.returned v/\w'.ownsRow w.heap.size 3 1 v n xs/\Ac w w':=by
 obtain⟨i0,hi,Cu,BV,Cj⟩:=info_parts info_int
 have hq:=λ w a n c=>PL (P:=Pf) w 26 3 a n c 0 0 Pg
 cases A with
 | none =>
  obtain rfl:xs=[]:=by
   cases xs with
   | nil=>rfl
   | cons x es=>obtain⟨_,_,hA,_⟩:=h 0 x rfl;cases hA
  obtain rfl:n=0:=by simp at hn;omega
  go_enter Tryz.func81,Tryz.ntmps81;go_wp2;go_ret;exact⟨_,rfl,Pv _ _ _ _,zr _ _⟩
 | some a =>
  have hN:=zh (h.grew ((zr _ w).alloc (.cells #[] 3))).news;have hE:=zh (IT w w.heap.size 3 1 (zl _));have h1:=zh h1;have hL:=zh hn;clear h hn;go_enter Tryz.func81,Tryz.ntmps81;go_wp2_with (at_builtin;refine wpList_append_own _ rfl (.tmp 5) (.tmp 6) 26 (by rfl) w.heap.size 3 i0 (.int .i64 0) 1 8 Pg hi Cu BV Cj (by rfl) (by omega) _ 0 [] rfl hE.out a n c xs rfl hL.out hN.out h1.out (by unfold maxLen;omega) (by omega) (by simp) ?_;intro v' w1 AV hg _);rw[PD,I_]at AV;go_wp2_with fail;go_ret;exact⟨_,rfl,AV,((zr (λ _=>False) w).alloc _).grown hg (λ k hk=>by cases hk;exact .inr (zl _))⟩
theorem xW (A:Option Pd) (c n:Nat) (xs:List Pc) (w:Pb) (h:Jm w A xs) (hn:xs.length=n*1) (hl:n<=100000) (h1:∀ u∈xs,u.oneCell'=true) :
  Pe Pf 387 #[.slice A n c] w λ e w'=>∃ v,e=.returned v/\w'.ownsRow w.heap.size 4 1 v n xs/\Ac w w':=by
 obtain⟨i0,hi,Cu,BV,Cj⟩:=info_parts IN
 have hq:=λ w a n c=>PL (P:=Pf) w 259 4 a n c 0 0 Po
 cases A with
 | none =>
  obtain rfl:xs=[]:=by
   cases xs with
   | nil=>rfl
   | cons x es=>obtain⟨_,_,hA,_⟩:=h 0 x rfl;cases hA
  obtain rfl:n=0:=by simp at hn;omega
  go_enter Tryz.func387,Tryz.ntmps387;go_wp2;go_ret;exact⟨_,rfl,Pv _ _ _ _,zr _ _⟩
 | some a =>
  have hN:=zh (h.grew ((zr _ w).alloc (.cells #[] 4))).news;have hE:=zh (IT w w.heap.size 4 1 (zl _));have h1:=zh h1;have hL:=zh hn;clear h hn;go_enter Tryz.func387,Tryz.ntmps387;go_wp2_with (at_builtin;refine wpList_append_own _ rfl (.tmp 5) (.tmp 6) 259 (by rfl) w.heap.size 4 i0 (.bool false) 1 1 Po hi Cu BV Cj (by rfl) (by omega) _ 0 [] rfl hE.out a n c xs rfl hL.out hN.out h1.out (by unfold maxLen;omega) (by omega) (by simp) ?_;intro v' w1 AV hg _);rw[PD,I_]at AV;go_wp2_with fail;go_ret;exact⟨_,rfl,AV,((zr (λ _=>False) w).alloc _).grown hg (λ k hk=>by cases hk;exact .inr (zl _))⟩
theorem xY (A:Option Pd) (c n:Nat) (xs:List Pc) (w:Pb) (h:Jm w A xs) (hn:xs.length=n*6) (hl:n<=100000) (h1:∀ u∈xs,u.oneCell'=true) :
  Pe Pf 84 #[.slice A n c] w λ e w'=>∃ v,e=.returned v/\w'.ownsRow w.heap.size 150 6 v n xs/\Ac w w':=by
 obtain⟨i0,hi,Cu,BV,Cj⟩:=info_parts Nt
 have hq:=λ w a n c=>PL (P:=Pf) w 85 150 a n c 0 0 Ph
 cases A with
 | none =>
  obtain rfl:xs=[]:=by
   cases xs with
   | nil=>rfl
   | cons x es=>obtain⟨_,_,hA,_⟩:=h 0 x rfl;cases hA
  obtain rfl:n=0:=by simp at hn;omega
  go_enter Tryz.func84,Tryz.ntmps84;go_wp2;go_ret;exact⟨_,rfl,Pv _ _ _ _,zr _ _⟩
 | some a =>
  have hN:=zh (h.grew ((zr _ w).alloc (.cells #[] 150))).news;have hE:=zh (IT w w.heap.size 150 6 (zl _));have h1:=zh h1;have hL:=zh hn;clear h hn;go_enter Tryz.func84,Tryz.ntmps84;go_wp2_with (at_builtin;refine wpList_append_own _ rfl (.tmp 5) (.tmp 6) 85 (by rfl) w.heap.size 150 i0 (.agg #[i64 0,i64 0,u64 0,i64 0,i64 0,i64 0]) 6 48 Ph hi Cu BV Cj (by rfl) (by omega) _ 0 [] rfl hE.out a n c xs rfl hL.out hN.out h1.out (by unfold maxLen;omega) (by omega) (by simp) ?_;intro v' w1 AV hg _);rw[PD,I_]at AV;go_wp2_with fail;go_ret;exact⟨_,rfl,AV,((zr (λ _=>False) w).alloc _).grown hg (λ k hk=>by cases hk;exact .inr (zl _))⟩
theorem Gz (A:Option Pd) (c:Nat) (zs:List Int) (w:Pb) (h:RowI w A zs) (hl:zs.length<=100000) :
  Pe Pf 81 #[.slice A zs.length c] w λ e w'=>∃ v,e=.returned v/\AO w' w.heap.size v zs/\Ac w w' :=
 xX A c zs.length (zs.map i64) w h.rowV (by simp) hl (JN _ (λ _=>rfl) _)
theorem cY (A:Option Pd) (c:Nat) (ss:List Sc) (w:Pb) (h:EW w A ss) (hl:ss.length<=100000) :
  Pe Pf 84 #[.slice A ss.length c] w λ e w'=>∃ v,e=.returned v/\Fz w' w.heap.size v ss/\Ac w w' :=
 xY A c ss.length (Db ss) w h.rowV (J5 ss) hl (cX ss)
def mF (w:Pb) (V B N:Nat) (v:Int) (As:Pc) (AG:Option Pd) (cG:Nat) (gs:List Bool):Prop :=
 Am w V 3 #[i64 v]/\Am w B 348 #[As,.slice AG N cG]/\LJ w AG gs/\gs.length=N/\N<=cG/\N<=1000
theorem mF.kept {F:Nat->Prop} {w w':Pb} {V B N cG:Nat} {v:Int} {As:Pc} {AG:Option Pd} {gs:List Bool} (h:mF w V B N v As AG cG gs) (k:Kept F w w') (hV:¬ F V) (hB:¬ F B) (hG:∀ a,AG=some a->¬ F a.block):mF w' V B N v As AG cG gs:=by
 obtain⟨h1,h2,h3,h4⟩:=h;refine⟨h1.kept k hV,h2.kept k hB,λ i g hg=>?_,h4⟩;obtain⟨b,off,e,hb,hc⟩:=h3 i g hg;exact⟨b,off,e,PE hb k.size,k.cell hc (show ¬ F b from hG _ e)⟩
theorem gm {m:Int->Option Int} {g:Int->Bool} {v x w:Int} (h:¬ (x≠v/\g x=false)):Cz m g v x w=m:=by unfold Cz;rw[if_neg h]
theorem pA {m:Int->Option Int} {g:Int->Bool} {v x w:Int} (h:x≠v) (h2:g x=false) (h3:m x=none):Cz m g v x w=EG m x w:=by unfold Cz;rw[if_pos ⟨h,h2⟩,h3]
theorem kc {m:Int->Option Int} {g:Int->Bool} {v x w y:Int} (h:x≠v) (h2:g x=false) (h3:m x=some y) (h4:w<y):Cz m g v x w=EG m x w:=by unfold Cz;rw[if_pos ⟨h,h2⟩,h3];exact if_pos h4
theorem ke {m:Int->Option Int} {g:Int->Bool} {v x w y:Int} (h3:m x=some y) (h4:¬ w<y):Cz m g v x w=m:=by
 unfold Cz;split
 ·rw[h3];exact if_neg h4
 ·rfl
theorem KD (M n u V B N cG:Nat) (m:Int->Option Int) (x v:Int) (As:Pc) (AG:Option Pd) (gs:List Bool) (w:Pb) (hM:Cl w M n m) (hN:mF w V B N v As AG cG gs) (hu:u<N) :
  Pe Pf 389 #[.map (some M),i64 u,u64 x,pt V,pt B] w λ e w'=>e=.returned (.tuple #[])/\Cl w' M (n+1) (Cz m (Bk gs) v u x)/\Kept (·=M) w w':=by
 obtain⟨h1,h2,h3,h4,h5,h6⟩:=hN
 obtain⟨gu,Km⟩:=zx (l:=gs) (i:=u) (by omega)
 have hg:Bk gs (u:Int)=gu:=by unfold Bk;rw[A_,Pq,Km];rfl
 obtain⟨b,off,rfl,hb,hc⟩:=h3 u gu Km
 have e0:=h1.cell 0
 have b1:=h2.cell 1
 simp at e0 b1
 have IH:=hM.at u (by omega) (by omega)
 obtain⟨wS,CW,hS,kS,_⟩:=hM.store (u:Int) x (by omega) (by omega)
 have u0:(0:Int)<=(u:Int):=by omega
 have u1:(u:Int)<(N:Int):=by omega
 have u2:(N:Int)<=(cG:Int):=by omega
 obtain⟨q,hq⟩:=zn (m (u:Int))
 rw[hq]at IH
 have HS:=BP hS kS
 have HM:=zh hM
 have HG:=zh hg
 have HQ:=zh hq
 clear h1 h2 h3 h4 h5 h6 hS kS hM hg hq Km hb
 by_cases dW:(u:Int)=v
 ·have HF:=zh (gm (m:=m) (g:=Bk gs) (v:=v) (x:=u) (w:=x) (λ h=>h.1 dW));clear CW HS;subst dW;go_enter Pk,Pj;go_wp2_with fail;go_end0;rw[HF.out];exact⟨rfl,HM.out.mono (by omega),zr _ _⟩
 ·cases gu with
  | true =>
   have HF:=zh (gm (m:=m) (g:=Bk gs) (v:=v) (x:=u) (w:=x) (λ h=>by have:=h.2;rw[HG.out]at this;cases this));clear CW HS;go_enter Pk,Pj;go_wp2_with fail;go_end0;rw[HF.out];exact⟨rfl,HM.out.mono (by omega),zr _ _⟩
  | false =>
   cases q with
   | none =>
    have HF:=zh (pA (w:=x) dW HG.out HQ.out);simp only[PI,PG]at IH;go_enter Pk,Pj;go_wp2_with fail;go_end0;rw[HF.out];exact⟨rfl,HS.out⟩
   | some y =>
    simp only[PF,PH]at IH;by_cases Kt:x<y
    ·have HF:=zh (kc (w:=x) dW HG.out HQ.out Kt);go_enter Pk,Pj;go_wp2_with fail;go_end0;rw[HF.out];exact⟨rfl,HS.out⟩
    ·have HF:=zh (ke (g:=Bk gs) (v:=v) (w:=x) HQ.out Kt);clear CW HS;go_enter Pk,Pj;go_wp2_with fail;go_end0;rw[HF.out];exact⟨rfl,HM.out.mono (by omega),zr _ _⟩
structure JA (w:Pb) (A AG:Option Pd) (cA cG N:Nat) (ls:List (List Ar)) (gs:List Bool) (v:Int) (u k:Nat) (wr:Pb):Prop where
 net:mF wr (w.heap.size+1) w.heap.size N v (.slice A N cA) AG cG gs
 tow:∃ n,Cl wr (w.heap.size+2) n (Fw (CP ls) (Bk gs) v u k)
 fro:∃ n,Cl wr (w.heap.size+3) n (By (CP ls) (Bk gs) v u k)
 kept:Ac w wr
theorem iR (ls:List (List Ar)) (u:Nat) {l:List Ar} (h:ls[u]? = some l):CP ls (u:Int)=l:=by
 unfold CP;rw[if_pos (by omega),Pq,A_,h];rfl
section
variable {w wr w':Pb} {A AG:Option Pd} {cA cG N:Nat} {ls:List (List Ar)} {gs:List Bool} {v:Int} {u k n:Nat} {a:Ar}
theorem JA.grew (h:JA w A AG cA cG N ls gs v u k wr) (g:Ac wr w'):JA w A AG cA cG N ls gs v u k w' :=
 ⟨h.net.kept g (λ h=>h) (λ h=>h) (λ _ _ h=>h),h.tow.imp λ _ h=>h.grew g,h.fro.imp λ _ h=>h.grew g,h.kept.trans g⟩
theorem JA.own (h:JA w A AG cA cG N ls gs v u k wr) (hv:v=(u:Int)) (ha:(CP ls (u:Int))[k]? = some a) (hm:Cl w' (w.heap.size+3) n (Cz (By (CP ls) (Bk gs) v u k) (Bk gs) v a.1 a.2)) (g:Kept (·=w.heap.size+3) wr w') (hAG:∀ a,AG=some a->a.block<w.heap.size):JA w A AG cA cG N ls gs v u (k+1) w':=by
 obtain⟨e1,e2⟩:=uy (g:=Bk gs) ha hv;refine⟨h.net.kept g (by omega) (by omega) (λ a ha e=>by have:=hAG a ha;have e:a.block=w.heap.size+3:=e;omega),?_,⟨n,by rw[e2];exact hm⟩,h.kept.then g (λ i hi e=>by have e:i=w.heap.size+3:=e;omega)⟩;obtain⟨n1,h1⟩:=h.tow;exact⟨n1,by rw[e1];exact h1.kept g (by omega)⟩
theorem JA.came (h:JA w A AG cA cG N ls gs v u k wr) (hv:v≠(u:Int)) (hp:v=a.1) (ha:(CP ls (u:Int))[k]? = some a) (hm:Cl w' (w.heap.size+2) n (Cz (Fw (CP ls) (Bk gs) v u k) (Bk gs) v u a.2)) (g:Kept (·=w.heap.size+2) wr w') (hAG:∀ a,AG=some a->a.block<w.heap.size):JA w A AG cA cG N ls gs v u (k+1) w':=by
 obtain⟨e1,e2⟩:=zAm (g:=Bk gs) ha hv hp;refine⟨h.net.kept g (by omega) (by omega) (λ a ha e=>by have:=hAG a ha;have e:a.block=w.heap.size+2:=e;omega),⟨n,by rw[e2];exact hm⟩,?_,h.kept.then g (λ i hi e=>by have e:i=w.heap.size+2:=e;omega)⟩;obtain⟨n1,h1⟩:=h.fro;exact⟨n1,by rw[e1];exact h1.kept g (by omega)⟩
theorem JA.pass (h:JA w A AG cA cG N ls gs v u k wr) (hv:v≠(u:Int)) (hp:v≠a.1) (ha:(CP ls (u:Int))[k]? = some a):JA w A AG cA cG N ls gs v u (k+1) wr:=by
 obtain⟨e1,e2⟩:=zX (g:=Bk gs) ha hv hp;obtain⟨n1,h1⟩:=h.tow;obtain⟨n2,h2⟩:=h.fro;exact⟨h.net,⟨n1,by rw[e2];exact h1⟩,⟨n2,by rw[e1];exact h2⟩,h.kept⟩
theorem JA.row (h:JA w A AG cA cG N ls gs v u k wr) (hk:(CP ls (u:Int)).length<=k):JA w A AG cA cG N ls gs v (u+1) 0 wr:=by
 obtain⟨n1,h1⟩:=h.tow;obtain⟨n2,h2⟩:=h.fro;exact⟨h.net,⟨n1,by rw[<- uK hk];exact h1⟩,⟨n2,by rw[<- jj hk];exact h2⟩,h.kept⟩
end
theorem Nw (A AG:Option Pd) (cA cG N v:Nat) (ls:List (List Ar)) (gs:List Bool) (w:Pb) (h:cP w A ls) (hG:LJ w AG gs) (DY:ls.length=N) (hgs:gs.length=N) (hv:v<N) (hN:N<=30) (hcA:N<=cA) (hcG:N<=cG) (yi:∀ l∈ls,l.length<=1000) (BF:∀ l∈ls,∀ a∈l,0<=a.1/\a.1<(N:Int)) (hAG:∀ a,AG=some a->a.block<w.heap.size) :
  Pe Pf 319 #[.agg #[.slice A N cA,.slice AG N cG],i64 v] w λ e w'=>e=.returned (.tuple #[.map (some (w.heap.size+2)),.map (some (w.heap.size+3))])/\(∃ n,Cl w' (w.heap.size+2) n (Fw (CP ls) (Bk gs) v N 0))/\(∃ n,Cl w' (w.heap.size+3) n (By (CP ls) (Bk gs) v N 0))/\Ac w w':=by
 obtain⟨b9,IS,A9,c9,rfl,-,-,-⟩:=h v _ (zq (by omega))
 have HR:=JQ h hG DY hgs yi BF
 have HAG:=zh hAG
 clear h hG DY hgs yi BF hAG
 have n0:(0:Int)<=(N:Int):=by omega
 have hB:Am (w.alloc (.cells #[.slice (some ⟨b9,IS,none⟩) N cA,.slice AG N cG] 348)) w.heap.size 348 #[.slice (some ⟨b9,IS,none⟩) N cA,.slice AG N cG]:=zv _ _ _
 obtain⟨w1,AQ,g1⟩:=zg w (.cells #[.slice (some ⟨b9,IS,none⟩) N cA,.slice AG N cG] 348)
 have s1:w1.heap.size=w.heap.size+1:=by rw[<- AQ];simp
 rw[AQ]at hB
 have hV:Am (w1.alloc (.cells #[i64 v] 3)) (w.heap.size+1) 3 #[i64 v]:=by rw[<- s1];exact zv _ _ _
 have hB2:Am (w1.alloc (.cells #[i64 v] 3)) w.heap.size 348 #[.slice (some ⟨b9,IS,none⟩) N cA,.slice AG N cG]:=hB.alloc _
 obtain⟨w2,BM⟩:=zn (w1.alloc (.cells #[i64 v] 3))
 have s2:w2.heap.size=w.heap.size+2:=by rw[<- BM];simp[s1]
 have g2:Ac w w2:=by rw[<- BM];exact g1.alloc _
 rw[BM]at hV hB2
 have m1:Cl (w2.alloc (.map #[] 0)) (w.heap.size+2) 0 (λ _=>none):=by rw[<- s2];exact BG.new _
 obtain⟨w3,Dj⟩:=zn (w2.alloc (.map #[] 0))
 have s3:w3.heap.size=w.heap.size+3:=by rw[<- Dj];simp[s2]
 have g3:Ac w w3:=by rw[<- Dj];exact g2.alloc _
 have g23:Ac w2 w3:=by rw[<- Dj];exact(zr _ _).alloc _
 rw[Dj]at m1
 have m2:Cl (w3.alloc (.map #[] 0)) (w.heap.size+3) 0 (λ _=>none):=by rw[<- s3];exact BG.new _
 obtain⟨w4,D6⟩:=zn (w3.alloc (.map #[] 0))
 have g4:Ac w w4:=by rw[<- D6];exact g3.alloc _
 have FF:Ac w3 w4:=by rw[<- D6];exact(zr _ _).alloc _
 rw[D6]at m2
 have S0:PK (JA w (some ⟨b9,IS,none⟩) AG cA cG N ls gs v 0 0 w4):=⟨⟨hV.grew (g23.trans FF),hB2.grew (g23.trans FF),HR.out.2.1.grew g4,HR.out.2.2.2.1,hcG,by omega⟩,⟨0,by rw[qj];exact m1.grew FF⟩,⟨0,by rw[dw (by omega)];exact m2⟩,g4⟩
 clear hB hV hB2 m1 m2 g1 g2 g3 g4 g23 FF
 have JJ:=@run_makeMap Pf
 go_enter Tryz.func319,Tryz.ntmps319
 have b0:=S0.out.net.2.1.cell 0
 simp at b0
 go_wp2_with fail
 go_loopw [17] (λ i wr=>∃ u:Nat,u<=N/\i=.int .i64 u/\PK (JA w (some ⟨b9,IS,none⟩) AG cA cG N ls gs v u 0 wr)) (λ i _=>N-(intOf i).toNat)
 case atStart=>exact⟨0,by omega,rfl,S0⟩
 case round =>
  clear S0 b0;obtain⟨u,hu,rfl,hS⟩:=hrel;by_cases AH:u<N
  ·have u1:(u:Int)<(N:Int):=(by omega);have u0:(0:Int)<=(u:Int):=(by omega);obtain⟨l,hl⟩:=zx (l:=ls) (i:=u) (by rw[HR.out.2.2.1];exact AH);obtain⟨b,off,Ai,c,hA,_,hc,AY⟩:=HR.out.1 u l hl;have hc:=hS.out.kept.cell hc;cases hA;have tk:=iR ls u hl;obtain⟨ll,vS⟩:=zn (l.length);rw[vS]at hc;have hl30:=HR.out.2.2.2.2.1 l (zm hl);have HL:=DS tk AY vS (HR.out.2.2.2.2.2 l (zm hl));have l30:ll<=1000:=(by omega);clear hl AY tk vS hl30;have S1:PK (JA w (some ⟨b9,IS,none⟩) AG cA cG N ls gs v u 0 wr/\Ac wr wr):=⟨hS.out,zr _ _⟩;clear hS;go_wp2_with fail;go_loopw [24] (λ j wr=>∃ k:Nat,k<=ll/\j=.int .i64 k/\PK (JA w (some ⟨b9,IS,none⟩) AG cA cG N ls gs v u k wr)) (λ j _=>ll-(intOf j).toNat)
   case atStart=>exact⟨0,by omega,rfl,S1.out.1⟩
   case round =>
    clear S1 hc;obtain⟨k,hk,rfl,hI⟩:=hrel;by_cases Kn:k<ll
    ·have k1:(k:Int)<(ll:Int):=(by omega);have k0:(0:Int)<=(k:Int):=(by omega);obtain⟨⟨p,q⟩,Gh⟩:∃ x,l[k]? = some x:=⟨_,zq (by rw[HL.out.2.2.1];exact Kn)⟩;obtain⟨b2,uw,hAi,FY,x0,x1⟩:=(HL.out.2.1.grew hI.out.kept) k _ Gh;have BF:=HL.out.2.2.2 _ (zm Gh);simp only at x0 x1 BF;subst hAi;obtain⟨p,rfl⟩:∃ z:Nat,p=(z:Int):=⟨p.toNat,by omega⟩;have vc:PK ((CP ls (u:Int))[k]? = some ((p:Int),q)/\p<N):=⟨by rw[HL.out.1];exact Gh,by omega⟩;have kA:Ac wr (wr.alloc (.cells #[i64 p,u64 q] 419)):=(zr _ _).alloc _;have bA:Am (wr.alloc (.cells #[i64 p,u64 q] 419)) wr.heap.size 419 #[i64 p,u64 q]:=zv _ _ _;obtain⟨wa,rT⟩:=zn (wr.alloc (.cells #[i64 p,u64 q] 419));rw[rT]at kA bA;have a0:=bA.cell 0;have a1:=bA.cell 1;have v0:=(hI.out.net.1.grew kA).cell 0;simp at a0 a1 v0;have Jz:PK (JA w (some ⟨b9,IS,none⟩) AG cA cG N ls gs v u k wa):=hI.out.grew kA;clear hI Gh kA bA;by_cases dW:v=u
     ·subst dW;obtain⟨n2,G7⟩:=Jz.out.fro;have HC:=zh (KD (w.heap.size+3) n2 p (w.heap.size+1) w.heap.size N cG _ q v _ AG gs wa G7 Jz.out.net vc.out.2);clear G7;go_wp2_with fail;refine HC.out.mono ?_;rintro e w2 ⟨rfl,hm,g2⟩;have hS:PK (JA w (some ⟨b9,IS,none⟩) AG cA cG N ls gs v v (k+1) w2):=Jz.out.own rfl vc.out.1 hm g2 HAG.out;clear HC Jz hm g2;go_wp2_with fail;go_roundw
      case rel=>first | exact⟨k+1,by omega,by go_num,hS⟩ | ((repeat apply Px);exact⟨⟨k+1,by omega,by go_num,hS⟩,rfl⟩)
      case measure=>simp[intOf];omega
     ·have huv2:¬ (v:Int)=(u:Int):=(by omega);by_cases hvp:v=p
      ·subst hvp;obtain⟨n2,G7⟩:=Jz.out.tow;have HC:=zh (KD (w.heap.size+2) n2 u (w.heap.size+1) w.heap.size N cG _ q v _ AG gs wa G7 Jz.out.net AH);clear G7;go_wp2_with fail;refine HC.out.mono ?_;rintro e w2 ⟨rfl,hm,g2⟩;have hS:PK (JA w (some ⟨b9,IS,none⟩) AG cA cG N ls gs v u (k+1) w2):=Jz.out.came huv2 rfl vc.out.1 hm g2 HAG.out;clear HC Jz hm g2;go_wp2_with fail;go_roundw
       case rel=>first | exact⟨k+1,by omega,by go_num,hS⟩ | ((repeat apply Px);exact⟨⟨k+1,by omega,by go_num,hS⟩,rfl⟩)
       case measure=>simp[intOf];omega
      ·have hvp2:¬ (v:Int)=(p:Int):=(by omega);have hS:PK (JA w (some ⟨b9,IS,none⟩) AG cA cG N ls gs v u (k+1) wa):=Jz.out.pass huv2 hvp2 vc.out.1;clear Jz;go_wp2_with fail;go_roundw
       case rel=>first | exact⟨k+1,by omega,by go_num,hS⟩ | ((repeat apply Px);exact⟨⟨k+1,by omega,by go_num,hS⟩,rfl⟩)
       case measure=>simp[intOf];omega
    ·obtain rfl:k=ll:=(by omega);have hS:PK (JA w (some ⟨b9,IS,none⟩) AG cA cG N ls gs v (u+1) 0 wr):=hI.out.row (by rw[HL.out.1,HL.out.2.2.1];exact zl _);clear hI;go_wp2_with fail;go_roundw
     case rel=>exact⟨u+1,by omega,by go_num,hS⟩
     case measure=>simp[intOf];omega
  ·obtain rfl:u=N:=(by omega);have HF:=DK hS.out.tow hS.out.fro hS.out.kept;clear hS;go_wp2_with fail;go_ret2;exact⟨rfl,HF.out⟩
def B8 (gs:List Bool):Int->Bool:=λ p=>decide (0<=p)&&gs.getD p.toNat false
theorem IE (gs:List Bool) (u:Nat):B8 gs (u:Int)=Bk gs (u:Int):=by simp[B8,Bk]
theorem IF (gs:List Bool) (v:Nat) (hv:v<gs.length) (p:Int):B8 (gs.set v true) p=(decide (p=(v:Int))||B8 gs p):=by
 unfold B8;by_cases h0:0<=p
 ·obtain⟨u,rfl⟩:∃ u:Nat,p=(u:Int):=⟨p.toNat,by omega⟩;rw[Pq,A_,A_];by_cases dW:u=v
  ·subst dW;rw[D_ hv];simp
  ·rw[E_ (λ e=>dW e.symm)];have:¬ (u:Int)=(v:Int):=(by omega);simp[this]
 ·have:¬ p=(v:Int):=(by omega);simp[h0,this]
theorem eI {arcs:D1} {g g':Int->Bool} {s:Int} (h:∀ v u c,(u,c)∈arcs v->g u=false->g' u=false) {k:Nat} {u x:Int} (hr:Reach arcs g s k u x):Reach arcs g' s k u x:=by
 induction hr with
 | start=>exact .start
 | arc h1 h2 h3 ih=>exact .arc ih h2 (h _ _ _ h2 h3)
def KE (N:Nat) (ss:List Sc):List (List Ar):=(O_ N).map λ (i:Nat)=>AS ss (i:Int)
theorem pB (N:Nat) (ss:List Sc):(KE N ss).length=N:=by simp[KE]
theorem Ej {N:Nat} {ss:List Sc} (BF:∀ s∈ss,inN N s) {p q a:Int} (h:(q,a)∈AS ss p):(0<=p/\p<(N:Int))/\0<=q/\q<(N:Int):=by
 obtain⟨s,hs,rfl,rfl,_⟩:=Fb h;have:=BF s hs;unfold inN at this;omega
theorem ER (ss:List Sc) (u:Int):(AS ss u).Pairwise λ a b=>a.1≠b.1:=by
 refine Li (P:=λ ss=>(AS ss u).Pairwise λ a b=>a.1≠b.1) ?_ ?_ ss
 ·rw[KJ];exact .nil
 ·intro l x ih;rw[F4];split
  ·rw[List.pairwise_append];refine⟨ih.filter _,by simp,λ a ha b hb=>?_⟩;simp at ha hb;rw[hb];exact ha.2
  ·exact ih
structure Fy (w:Pb) (A AG:Option Pd) (cA cG N:Nat) (ss:List Sc) (gs:List Bool):Prop where
 rows:cP w A (KE N ss)
 gone:LJ w AG gs
 glen:gs.length=N
 inn:∀ s∈ss,inN N s
 wt:∀ s∈ss,1<=s.w/\s.w<=562949953421312
 few:∀ u:Nat,u<N->(AS ss (u:Int)).length<=30
 cA:N<=cA
 cG:N<=cG
 n30:N<=30
 bG:∀ a,AG=some a->a.block<w.heap.size
section
variable {w w':Pb} {A AG:Option Pd} {cA cG N:Nat} {ss:List Sc} {gs:List Bool}
theorem Fy.grew (h:Fy w A AG cA cG N ss gs) (k:Ac w w'):Fy w' A AG cA cG N ss gs :=
 ⟨h.rows.grew k,h.gone.grew k,h.glen,h.inn,h.wt,h.few,h.cA,h.cG,h.n30,λ a ha=>PE (h.bG a ha) k.size⟩
theorem Fy.arcs (h:Fy w A AG cA cG N ss gs):CP (KE N ss)=AS ss:=ku N ss h.inn
theorem Fy.ok (h:Fy w A AG cA cG N ss gs):Mc N (CP (KE N ss)):=⟨λ v u c hc=>by
 rw[h.arcs]at hc;have h1:=Ej h.inn hc;obtain⟨s,hs,_,_,rfl⟩:=Fb hc;have:=h.wt s hs;omega⟩
theorem Fy.short (h:Fy w A AG cA cG N ss gs):∀ l∈KE N ss,l.length<=30:=λ l hl=>by
 unfold KE at hl;obtain⟨i,hi,rfl⟩:=L_.1 hl;exact h.few i (by simpa using hi)
theorem Fy.inl (h:Fy w A AG cA cG N ss gs):∀ l∈KE N ss,∀ a∈l,0<=a.1/\a.1<(N:Int):=λ l hl a ha=>by
 unfold KE at hl;obtain⟨i,hi,rfl⟩:=L_.1 hl;exact(Ej h.inn (p:=(i:Int)) (q:=a.1) (a:=a.2) ha).2
theorem Fy.lightest (h:Fy w A AG cA cG N ss gs) (v:Nat) (hv:v<N) :
  Pe Pf 319 #[.agg #[.slice A N cA,.slice AG N cG],i64 v] w λ e w'=>e=.returned (.tuple #[.map (some (w.heap.size+2)),.map (some (w.heap.size+3))])/\(∃ n,Cl w' (w.heap.size+2) n (Fw (AS ss) (Bk gs) v N 0))/\(∃ n,Cl w' (w.heap.size+3) n (By (AS ss) (Bk gs) v N 0))/\Ac w w':=by
 have:=Nw A AG cA cG N v (KE N ss) gs w h.rows h.gone (pB N ss) h.glen hv h.n30 h.cA h.cG (λ l hl=>by have:=h.short l hl;omega) h.inl h.bG
 rwa [h.arcs]at this
end
structure iF (w6:Pb) (N v:Nat) (ss:List Sc) (gs:List Bool) (v1 v2:Pc) (l:List Ar) (of:List Int) (u k:Nat) (wr:Pb):Prop where
 own1:CO wr w6.heap.size v1 l
 own2:AO wr w6.heap.size v2 of
 inv:Di ss (B8 gs) v N u k l of
 kept:Ac w6 wr
theorem iF.grew {w6 wr w':Pb} {N v:Nat} {ss:List Sc} {gs:List Bool} {v1 v2:Pc} {l:List Ar} {of:List Int} {u k:Nat} (h:iF w6 N v ss gs v1 v2 l of u k wr) (g:Ac wr w'):iF w6 N v ss gs v1 v2 l of u k w':=⟨h.own1.grew g,h.own2.grew g,h.inv,h.kept.trans g⟩
structure lK (w6:Pb) (B0 B1 M1 M2 g c N v cA:Nat) (A:Option Pd) (ss:List Sc) (gs:List Bool) (hops settles:Int) (rk:Pc):Prop where
 net:Am w6 B0 348 #[.slice A N cA,.slice (some ⟨g,0,none⟩) N c]
 opt:Am w6 B1 70 #[i64 hops,i64 settles,rk]
 ok:Fy w6 A (some ⟨g,0,none⟩) cA c N ss (gs.set v true)
 glen:gs.length=N
 to':∃ n,Cl w6 M1 n (Fw (AS ss) (Bk gs) v N 0)
 fro:∃ n,Cl w6 M2 n (By (AS ss) (Bk gs) v N 0)
theorem lK.grew {w6 w':Pb} {B0 B1 M1 M2 g c N v cA:Nat} {A:Option Pd} {ss:List Sc} {gs:List Bool} {hops settles:Int} {rk:Pc} (h:lK w6 B0 B1 M1 M2 g c N v cA A ss gs hops settles rk) (k:Ac w6 w'):lK w' B0 B1 M1 M2 g c N v cA A ss gs hops settles rk :=
 ⟨h.net.grew k,h.opt.grew k,h.ok.grew k,h.glen,h.to'.imp λ _ h=>h.grew k,h.fro.imp λ _ h=>h.grew k⟩
section
variable {w6 wr:Pb} {B0 B1 M1 M2 g c N v cA:Nat} {A:Option Pd} {ss:List Sc} {gs:List Bool} {hops settles:Int} {rk v1 v2:Pc} {l:List Ar} {of:List Int} {u k:Nat}
theorem lK.inn (h:lK w6 B0 B1 M1 M2 g c N v cA A ss gs hops settles rk):∀ p q a,(q,a)∈AS ss p->(0<=p/\p<(N:Int))/\0<=q/\q<(N:Int):=λ _ _ _=>Ej h.ok.inn
theorem lK.toIs (h:lK w6 B0 B1 M1 M2 g c N v cA A ss gs hops settles rk) (u:Nat) (a:Int):Fw (AS ss) (Bk gs) v N 0 (u:Int)=some a↔(u:Int)≠v/\B8 gs u=false/\((v:Int),a)∈AS ss u:=by
 rw[IE];exact ig (ER ss) (λ x hx=>by
  cases ho:AS ss x with
  | nil=>rfl
  | cons b r=>exact absurd (h.inn x b.1 b.2 (by rw[ho];simp)).1 hx) _ _
theorem lK.froIs (h:lK w6 B0 B1 M1 M2 g c N v cA A ss gs hops settles rk) (hv:v<N) (u:Nat) (a:Int):By (AS ss) (Bk gs) v N 0 (u:Int)=some a↔(u:Int)≠v/\B8 gs u=false/\((u:Int),a)∈AS ss v:=by
 rw[IE];exact Mm (ER ss) (by omega) _ _
theorem lK.wt (h:lK w6 B0 B1 M1 M2 g c N v cA A ss gs hops settles rk) {p q a:Int} (ha:(q,a)∈AS ss p):1<=a/\a<=562949953421312:=by
 obtain⟨s,hs,_,_,rfl⟩:=Fb ha;exact h.ok.wt s hs
end
theorem af (A AG Rk:Option Pd) (cA cG N v lr cr:Nat) (ss:List Sc) (gs:List Bool) (hops settles:Int) (w:Pb) (h:Fy w A AG cA cG N ss gs) (hv:v<N) :
  Pe Pf 318 #[.agg #[.slice A N cA,.slice AG N cG],i64 v,.agg #[i64 hops,i64 settles,.slice Rk lr cr]] w λ e w'=>∃ v1 v2 l of,e=.returned (.tuple #[v1,v2])/\CO w' w.heap.size v1 l/\AO w' w.heap.size v2 of/\EV ss (B8 gs) v N l of/\Ac w w':=by
 obtain⟨ia,hia,yv,yx,yy⟩:=info_parts O8
 obtain⟨ii,hii,tw,tz,tA⟩:=info_parts info_int
 have HR:=zh h.rows
 have v0:(0:Int)<=(v:Int):=by omega
 have v9:(v:Int)<(N:Int):=by omega
 have bN:Am (w.alloc (.cells #[.slice A N cA,.slice AG N cG] 348)) w.heap.size 348 #[.slice A N cA,.slice AG N cG]:=zv _ _ _
 obtain⟨w1,AQ,g1⟩:=zg w (.cells #[.slice A N cA,.slice AG N cG] 348)
 have s1:w1.heap.size=w.heap.size+1:=by rw[<- AQ];simp
 rw[AQ]at bN
 have bO:Am (w1.alloc (.cells #[i64 hops,i64 settles,.slice Rk lr cr] 70)) (w.heap.size+1) 70 #[i64 hops,i64 settles,.slice Rk lr cr]:=by rw[<- s1];exact zv _ _ _
 have g12:Ac w1 (w1.alloc (.cells #[i64 hops,i64 settles,.slice Rk lr cr] 70)):=(zr _ _).alloc _
 obtain⟨w2,BM⟩:=zn (w1.alloc (.cells #[i64 hops,i64 settles,.slice Rk lr cr] 70))
 have s2:PK (w2.heap.size=w.heap.size+2):=by show _=_;rw[<- BM];simp[s1]
 rw[BM]at bO g12
 have H2:=DS (bN.grew g12) bO (g1.trans g12) (h.grew (g1.trans g12))
 have HL:=zh (H2.out.2.2.2.lightest v hv)
 obtain⟨n0,n1⟩:=CE H2.out.1
 clear bN bO g1 g12 h
 go_enter Tryz.func318,Tryz.ntmps318
 go_wp2_with fail
 refine HL.out.mono ?_
 rintro e w3 ⟨rfl,Mv,G7,g3⟩
 have H3:=JQ (H2.out.1.grew g3) (H2.out.2.1.grew g3) (H2.out.2.2.1.trans g3) (H2.out.2.2.2.grew g3) Mv G7
 obtain⟨M1,fJ⟩:=zn (w2.heap.size+2)
 obtain⟨M2,OP⟩:=zn (w2.heap.size+3)
 rw[fJ,OP]at H3
 have HM:=BP fJ OP
 rw[fJ,OP]
 have HC:=zh (xW AG cG N (gs.map PM) w3 (H3.out.2.2.2.1.gone.rowV) (by simp[H3.out.2.2.2.1.glen]) (by have:=H3.out.2.2.2.1.n30;omega) (JN _ (λ _=>rfl) _))
 have n31:=H3.out.1.cell 1
 simp at n31
 clear HL H2 Mv G7 g3 fJ OP n0 n1 AQ BM s1
 go_wp2_with fail
 refine HC.out.mono ?_
 rintro e w4 ⟨vG,rfl,hO,g4⟩
 clear HC
 obtain⟨g,c,cur,rfl,hgB,hgb,hc,tq,Et,hct⟩:∃ g c cur,vG=.slice (some ⟨g,0,none⟩) N c/\w3.heap.size<=g/\Am w4 g 4 cur/\N<=c/\c<=maxLen/\cur.size=c*1/\cur.toList.take (N*1)=gs.map PM:=by
  rcases hO.2 with ⟨_,h0⟩ | ⟨g,c,cur,h1,h2,h3,h4⟩
  ·omega
  ·exact⟨g,c,cur,h1,h2,h3,h4⟩
 have c0:(N:Int)<=(c:Int):=by omega
 have hbB:Am w4 w.heap.size 348 #[.slice A N cA,.slice AG N cG]:=H3.out.1.grew g4
 have Bm:g≠w.heap.size:=Ay hgb hbB (by decide)
 have n41:=hbB.cell 1
 have f41:=hbB.frozen 1
 simp at n41
 have vO:=H3.out.2.2.2.1.glen
 have jz:∀ i:Nat,i<N->cur[i]? = some (.bool (gs.getD i false)):=λ i hi=>by
  have h1:(cur.toList.take (N*1))[i]? = (gs.map PM)[i]? := (by rw[hct]);rw[J_ (by omega),G_,zq (show i<gs.length by omega)]at h1;rw[A_,zq (show i<gs.length by omega)];simpa using h1
 have bg5:Am (w4.setCell ⟨w.heap.size,1,none⟩ (.slice (some ⟨g,0,none⟩) N c)) g 4 cur:=hgb.far (p:=⟨w.heap.size,1,none⟩) Bm _
 have g5:=bg5.cell v
 have f5:=bg5.frozen v
 rw[jz v hv]at g5
 obtain⟨w5,zA⟩:=zn (w4.setCell ⟨w.heap.size,1,none⟩ (.slice (some ⟨g,0,none⟩) N c))
 have bN5:Am w5 w.heap.size 348 #[.slice A N cA,.slice (some ⟨g,0,none⟩) N c]:=by
  rw[<- zA];have:=hbB.set 1 (.slice (some ⟨g,0,none⟩) N c);simpa using this
 have k45:Kept (·=w.heap.size) w4 w5:=by rw[<- zA];exact(zr (·=w.heap.size) w4).setCell (p:=⟨w.heap.size,1,none⟩) (.inl rfl) _
 rw[zA]at bg5 g5 f5
 have m51:=bN5.cell 1
 simp at m51
 have bg6:Am (w5.setCell ⟨g,v,none⟩ (.bool true)) g 4 (cur.setIfInBounds v (.bool true)):=bg5.set v _
 have k56:Kept (·=g) w5 (w5.setCell ⟨g,v,none⟩ (.bool true)):=(zr (·=g) w5).setCell (p:=⟨g,v,none⟩) (.inl rfl) _
 obtain⟨w6,lX⟩:=zn (w5.setCell ⟨g,v,none⟩ (.bool true))
 rw[lX]at bg6 k56
 have s3:=H3.out.2.2.1.size
 have s32:w2.heap.size<=w3.heap.size:=by have:=H3.out.2.2.2.2.1;obtain⟨_,h⟩:=this;have:=h.lt;have:=HM.out.1;omega
 have k36:Kept (λ j=>j=w.heap.size\/j=g) w3 w6:=((Ac.kept g4).then k45 (λ i _ h=>.inl h)).then k56 (λ i _ h=>.inr h)
 have hM1l:M1<w3.heap.size:=by obtain⟨_,h⟩:=H3.out.2.2.2.2.1;exact h.lt
 have hM2l:M2<w3.heap.size:=by obtain⟨_,h⟩:=H3.out.2.2.2.2.2;exact h.lt
 have hF:PK (lK w6 w.heap.size (w.heap.size+1) M1 M2 g c N v cA A ss gs hops settles (.slice Rk lr cr)/\Ac w w6/\N<=30):=by
  have F9:=s2.out;have g06:Ac w w6:=(H3.out.2.2.1).then k36 (λ i hi h=>by rcases h with h | h<;>omega);refine⟨⟨bN5.kept k56 (λ e=>Bm e.symm),H3.out.2.1.kept k36 (by omega),?_,vO,?_,?_⟩,?_,H3.out.2.2.2.1.n30⟩
  ·have o:=H3.out.2.2.2.1;refine⟨?_,?_,by simp[o.glen],o.inn,o.wt,o.few,o.cA,hc,o.n30,λ a ha=>?_⟩
   ·exact HR.out.grew g06
   ·intro i x hx;refine⟨g,0,rfl,bg6.lt,?_⟩;rw[PD,bg6.cell];have hi:i<N:=by have:=(C_.1 hx).1;simp at this;omega
    by_cases hiv:v=i
    ·subst hiv;rw[PA (by rw[Et];omega)];rw[D_ (by omega)]at hx;rw[<- PC hx]
    ·rw[PB hiv,jz i hi];rw[E_ hiv]at hx;rw[A_,hx];rfl
   ·cases ha;exact bg6.lt
  ·obtain⟨n,h⟩:=H3.out.2.2.2.2.1;exact⟨n,h.kept k36 (by have:=HM.out.1;omega)⟩
  ·obtain⟨n,h⟩:=H3.out.2.2.2.2.2;exact⟨n,h.kept k36 (by have:=HM.out.2;omega)⟩
  ·exact g06
 clear bg6 k56 k36 k45 jz hct Et tq hgb hgB hO g4 H3 vO bN5 bg5 hbB s3 s32 hM1l hM2l
 have S0:PK (iF w6 N v ss gs (.slice none 0 0) (.slice none 0 0) [] [] 0 0 w6):=⟨CO.nil _ _,⟨rfl,.inl ⟨rfl,rfl⟩⟩,Di.start ss (B8 gs) v N hF.out.1.inn,zr _ _⟩
 have hN30:=hF.out.2.2
 have n60:=hF.out.1.net.cell 0
 simp at n60
 go_wp2_with fail
 go_loopw [6,7,35] (λ s6 s7 i wr=>∃ (u:Nat) (l:List Ar) (of:List Int),u<=N/\i=.int .i64 u/\PK (iF w6 N v ss gs s6 s7 l of u 0 wr)) (λ _ _ i _=>N-(intOf i).toNat)
 case atStart=>exact⟨0,[],[],by omega,rfl,S0⟩
 case round =>
  clear S0 n60 zA lX g5 f5 m51 n41 f41;obtain⟨u,l,of,hu,rfl,hS⟩:=hrel;by_cases AH:u<N
  ·as_aux_lemma =>
   have jK:(u:Int)<(N:Int):=(by omega);have hu0:(0:Int)<=(u:Int):=(by omega);have Lv:=zh (hF.out.1.grew hS.out.kept);obtain⟨_,hmt⟩:=Lv.out.to';have IH:=Cl.at hmt (u:Int) (by omega) (by omega);have oZ:=zh (Lv.out.toIs u);obtain⟨q1,cD⟩:=zn (Fw (AS ss) (Bk gs) v N 0 (u:Int));rw[cD]at IH oZ;have n70:=Lv.out.net.cell 0;simp at n70;clear hmt cD;cases q1 with
   | none =>
    simp only[PI,PG]at IH;have Ci:PK (iF w6 N v ss gs u6 u7 l of (u+1) 0 wr):=⟨hS.out.own1,hS.out.own2,hS.out.inv.none hF.out.1.inn (λ a ha h1 h2=>by have:=(oZ.out a).2 ⟨h1,h2,ha⟩;cases this),hS.out.kept⟩;clear hS oZ Lv;go_wp2_with fail;go_roundw
    case rel=>first | exact⟨u+1,l,of,by omega,by go_num,Ci⟩ | ((repeat apply Px);exact⟨⟨u+1,l,of,by omega,by go_num,Ci⟩,rfl⟩)
    case measure=>simp[intOf];omega
   | some a =>
    obtain⟨dW,Km,hau⟩:=(oZ.out a).1 rfl;have HA:=DK dW Km hau;simp only[PF,PH]at IH;clear oZ dW Km hau;go_wp2_with fail;go_loopw [6,7,49] (λ s6 s7 j wr=>∃ (k:Nat) (l:List Ar) (of:List Int),k<=N/\j=.int .i64 k/\PK (iF w6 N v ss gs s6 s7 l of u k wr)) (λ _ _ j _=>N-(intOf j).toNat)
    case atStart=>exact⟨0,l,of,by omega,rfl,hS⟩
    case round =>
     clear hS Lv IH n70;obtain⟨k,l,of,hk,rfl,hS⟩:=hrel;by_cases Kn:k<N
     ·as_aux_lemma =>
      have Ly:(k:Int)<(N:Int):=(by omega);have Fj:(0:Int)<=(k:Int):=(by omega);have Lv:=zh (hF.out.1.grew hS.out.kept);obtain⟨_,hmt⟩:=Lv.out.fro;have IH:=Cl.at hmt (k:Int) (by omega) (by omega);have oZ:=zh (Lv.out.froIs hv k);obtain⟨q2,fU⟩:=zn (By (AS ss) (Bk gs) v N 0 (k:Int));rw[fU]at IH oZ;clear hmt fU;cases q2 with
      | none =>
       simp only[PI,PG]at IH;have Ci:PK (iF w6 N v ss gs u6 u7 l of u (k+1) wr):=⟨hS.out.own1,hS.out.own2,hS.out.inv.skip (λ a b _ hb _ _ h1 _ h2=>by have:=(oZ.out b).2 ⟨h1,h2,hb⟩;cases this),hS.out.kept⟩;clear hS oZ Lv HA;go_wp2_with fail;go_roundw
       case rel=>first | exact⟨k+1,l,of,by omega,by go_num,Ci⟩ | ((repeat apply Px);exact⟨⟨k+1,l,of,by omega,by go_num,Ci⟩,rfl⟩)
       case measure=>simp[intOf];omega
      | some b =>
       obtain⟨hkv,hgk,hbk⟩:=(oZ.out b).1 rfl;have HB:=DK hkv hgk hbk;simp only[PF,PH]at IH;clear oZ hkv hgk hbk;by_cases huk:u=k
       ·have Ci:PK (iF w6 N v ss gs u6 u7 l of u (k+1) wr):=⟨hS.out.own1,hS.out.own2,hS.out.inv.skip (λ a b _ _ h1 _ _ _ _=>absurd (by omega) h1),hS.out.kept⟩;subst huk;clear hS Lv HA HB;go_wp2_with fail;go_roundw
        case rel=>first | exact⟨u+1,l,of,by omega,by go_num,Ci⟩ | ((repeat apply Px);exact⟨⟨u+1,l,of,by omega,by go_num,Ci⟩,rfl⟩)
        case measure=>simp[intOf];omega
       ·have huk2:¬ (u:Int)=(k:Int):=(by omega);have wa:=hF.out.1.wt HA.out.2.2;have wb:=hF.out.1.wt HB.out.2.2;have hwr:IntKind.u64.wrap (a+b)=a+b:=Go.IntWalk.u64_in _ (by omega);have hSe:=eM A (some ⟨g,0,none⟩) cA c N u k (KE N ss) (gs.set v true) (a+b) hops settles wr Lv.out.ok.rows Lv.out.ok.gone (pB N ss) Lv.out.ok.glen AH Kn huk hN30 Lv.out.ok.short Lv.out.ok.ok (by omega);have HSE:=zh hSe;have n0:=Lv.out.net.cell 0;have n1:=Lv.out.net.cell 1;have o0:=Lv.out.opt.cell 0;have o1:=Lv.out.opt.cell 1;simp at n0 n1 o0 o1;have HARC:=BP Lv.out.ok.arcs Lv.out.glen;clear hSe Lv wa wb;go_wp2_with fail;refine HSE.out.mono ?_;rintro e wS ⟨x,is,rfl,gS,_,_,zJ,_,_⟩;have BZ:PK (iF w6 N v ss gs u6 u7 l of u k wS):=hS.out.grew gS;clear HSE hS n0 n1 o0 o1;cases is with
        | true =>
         obtain⟨_,_,hx,j,_,hr⟩:=zJ rfl;have Ci:PK (iF w6 N v ss gs u6 u7 l of u (k+1) wS):=⟨BZ.out.own1,BZ.out.own2,BZ.out.inv.skip (λ a' b' ha' Lx _ _ _ _ _=>by
          obtain rfl:=Ij ha' HA.out.2.2;obtain rfl:=Ij Lx HB.out.2.2;rw[HARC.out.1]at hr;refine⟨j,x,by omega,eI (λ p q c hq hg=>?_) hr⟩;have BF:=(hF.out.1.inn _ _ _ hq).2;obtain⟨q,rfl⟩:∃ z:Nat,q=(z:Int):=⟨q.toNat,by omega⟩;rw[<- IE,IF _ _ (by rw[HARC.out.2];exact hv)]at hg;exact hg),BZ.out.kept⟩
         clear BZ zJ hr hx HA HB;go_wp2_with fail;go_roundw
         case rel=>first | exact⟨k+1,l,of,by omega,by go_num,Ci⟩ | ((repeat apply Px);exact⟨⟨k+1,l,of,by omega,by go_num,Ci⟩,rfl⟩)
         case measure=>simp[intOf];omega
        | false =>
         clear zJ;have hlen:=BZ.out.inv.len;have dM:=BZ.out.inv.few;have wE:u*N<=30*30:=Nat.mul_le_mul (by omega) hN30;obtain⟨n1,EI⟩:=zn (l.length);have CQ:=BZ.out.own1;have Cr:=BZ.out.own2;unfold CO at CQ;unfold AO at Cr;rw[hlen]at Cr;rw[EI]at CQ Cr dM;have hn9:n1<=930:=(by omega);have wO:PK ((wS.alloc (.cells #[i64 k,.int .u64 (a+b)] 419)).ownsRow w6.heap.size 419 2 u6 n1 (DV l)):=Ac.own ((zr (λ _=>False) wS).alloc _) CQ;have Nd:PK (∀ j y,(Cq ((k:Int),a+b))[j]? = some y->(wS.alloc (.cells #[i64 k,.int .u64 (a+b)] 419)).cell? ((⟨wS.heap.size,0,none⟩:Pd).add j)=some y):=Pu (heap_alloc_new wS (.cells #[i64 k,.int .u64 (a+b)] 419));have hszS:PK (w6.heap.size<=wS.heap.size):=BZ.out.kept.size;have HO2:=zh Cr;have HLN:=BP hlen EI;have HAP:PK (∀ j,u6.ownBlock=some j->¬ u7.ownBlock=some j):=λ j hj=>Dt BZ.out.own1 BZ.out.own2 (by decide) hj;have HLW:PK ((∀ j,u6.ownBlock=some j->w6.heap.size<=j)/\∀ j,u7.ownBlock=some j->w6.heap.size<=j/\j<wS.heap.size):=⟨λ j hj=>(BZ.out.own1.lt j hj).1,λ j hj=>BZ.out.own2.lt j hj⟩;clear hlen dM wE EI CQ Cr;go_wp2_with (first
          | (at_builtin
             refine wpList_append_lies _ rfl (.tmp 81) (.tmp 87) 413 (by rfl) w6.heap.size 419 ia (.agg #[i64 0,.int .u64 0]) 2 16 Pp hia yv yx yy (by rfl) (by omega) u6 n1 (DV l) (by rfl) wO.out ⟨wS.heap.size,0,none⟩ 1 1 (Cq ((k:Int),a+b)) (by rfl) (by rfl) Nd.out (by intro y hy;simp[Cq]at hy;rcases hy with rfl | rfl<;>rfl) (by omega) (by unfold maxLen;omega) (by omega) (by have:=hszS.out;simp;omega) _ rfl ?_
             intro g1 cp1 wA Bb AD hor1 _
             have kA:Kept (λ j=>u6.ownBlock=some j) wS wA:=((zr (λ j=>u6.ownBlock=some j) wS).alloc _).grown AD (λ k hk=>.inl hk)
             have wP:PK ((wA.alloc (.cells #[i64 u] 3)).ownsRow w6.heap.size 3 1 u7 n1 (of.map i64)):=Ac.own ((zr (λ _=>False) wA).alloc _) (Kept.own kA HO2.out (λ j hj h=>HAP.out j h hj))
             have hN2:PK (∀ j y,[i64 u][j]? = some y->(wA.alloc (.cells #[i64 u] 3)).cell? ((⟨wA.heap.size,0,none⟩:Pd).add j)=some y):=Pu (heap_alloc_new wA (.cells #[i64 u] 3))
             have H1A:=DK Bb kA hor1
             clear Bb AD kA hor1)
          | (at_builtin
             refine wpList_append_lies _ rfl (.tmp 89) (.tmp 91) 26 (by rfl) w6.heap.size 3 ii (.int .i64 0) 1 8 Pg hii tw tz tA (by rfl) (by omega) u7 n1 (of.map i64) (by rfl) wP.out ⟨wA.heap.size,0,none⟩ 1 1 [i64 u] (by rfl) (by rfl) hN2.out (by intro y hy;simp at hy;subst hy;rfl) (by omega) (by unfold maxLen;omega) (by omega) (by have:=hszS.out;have:=H1A.out.2.1.size;simp;omega) _ rfl ?_
             intro g2 vw wB C5 E5 dS _
             have kB:Kept (λ j=>u7.ownBlock=some j) wA wB:=((zr (λ j=>u7.ownBlock=some j) wA).alloc _).grown E5 (λ k hk=>.inl hk)
             have Ci:PK (iF w6 N v ss gs (.slice (some ⟨g1,0,none⟩) (n1+1) cp1) (.slice (some ⟨g2,0,none⟩) (n1+1) vw) (l++[((k:Int),a+b)]) (of++[(u:Int)]) u (k+1) wB):=by
              refine⟨?_,?_,BZ.out.inv.keep HA.out.2.2 HB.out.2.2 huk2 HA.out.1 HB.out.1 HA.out.2.1 HB.out.2.1,?_⟩
              ·unfold CO;rw[F_,HLN.out.2,Gb];exact Kept.own kB H1A.out.1 (λ j hj h=>by
                obtain rfl:g1=j:=PC hj
                rcases H1A.out.2.2 with h1 | h1
                ·exact HAP.out _ h1 h
                ·have:=(HLW.out.2 _ h).2;simp at h1;omega)
              ·unfold AO;rw[F_,HLN.out.1,HLN.out.2,List.map_append];exact C5
              ·exact(BZ.out.kept.then H1A.out.2.1 (λ i hi h=>by have:=HLW.out.1 i h;omega)).then kB (λ i hi h=>by have:=(HLW.out.2 i h).1;omega)
             clear C5 E5 kB dS H1A wP hN2))
         clear BZ wO Nd HO2 HLN HAP HLW HA HB;go_wp2_with fail;go_roundw
         case rel=>first | exact⟨k+1,_,_,by omega,by go_num,Ci⟩ | ((repeat apply Px);exact⟨⟨k+1,_,_,by omega,by go_num,Ci⟩,rfl⟩)
         case measure=>simp[intOf];omega
     ·as_aux_lemma =>
      obtain rfl:k=N:=(by omega);have Ci:PK (iF w6 k v ss gs u6 u7 l of (u+1) 0 wr):=⟨hS.out.own1,hS.out.own2,hS.out.inv.row hF.out.1.inn rfl,hS.out.kept⟩;clear hS HA;go_wp2_with fail;go_roundw
      case rel=>first | exact⟨u+1,l,of,by omega,by go_num,Ci⟩ | ((repeat apply Px);exact⟨⟨u+1,l,of,by omega,by go_num,Ci⟩,rfl⟩)
      case measure=>simp[intOf];omega
  ·as_aux_lemma =>
   obtain rfl:u=N:=(by omega);have HF:=zh (show CO wr w.heap.size u6 l/\AO wr w.heap.size u7 of/\EV ss (B8 gs) v u l of/\Ac w wr from
    ⟨Az hS.out.own1 hF.out.2.1.size,Az hS.out.own2 hF.out.2.1.size,hS.out.inv.over hF.out.1.inn,hF.out.2.1.trans hS.out.kept⟩)
   clear hS;go_wp2_with fail;go_ret2;exact⟨_,_,_,_,rfl,HF.out⟩
theorem sr {ss:List Sc} {x:Sc} (h:DM ss x=ss++[x]) (p:Int×Int):atF (DM ss x) p.1 p.2=EG (λ p=>atF ss p.1 p.2) (x.from',x.to') ss.length p:=by
 rw[h,Hj];by_cases hp:p=(x.from',x.to')
 ·subst hp;rw[C8,if_pos ⟨rfl,rfl⟩]
 ·rw[CD _ _ hp,if_neg (λ e=>hp (by obtain⟨a,b⟩:=p;simp only at e;rw[e.1,e.2]))]
theorem sx {ss:List Sc} {x:Sc} {u:Nat} (h:DM ss x=ss++[x]) (hu:x.from'=(u:Int)) (i:Nat):AS (DM ss x) (i:Int)=uQ (λ i=>AS ss (i:Int)) u ((AS ss (u:Int)).filter (λ a=>!decide (a.1=x.to'))++[(x.to',x.w)]) i:=by
 rw[h,F4,hu];unfold uQ;by_cases hi:i=u
 ·subst hi;rw[if_pos rfl,if_pos rfl]
 ·rw[if_neg (by omega),if_neg hi]
theorem sy (X B N:Nat) (KK:Nat->Prop) (ss:List Sc) (gs:List Bool) (ds:List Int) (hops settles:Int) (B4:Pc) (x:Sc) (w:Pb) (h:Core w X B KK N ss gs ds hops settles B4) (hx:inN N x) (hN:N<=1000) (hl:ss.length<=100000) (AY:(AS ss x.from').length<=900) (hK:∀ j,KK j->j<w.heap.size) (hB:B<=w.heap.size)
  (yq:DM ss x=ss++[x]) (Cx:∀ i si,atF ss x.from' x.to'=some i->ss[i]? = some si->x.w<si.w) :
  Pe Pf 313 #[pt X,scV x] w λ e w'=>e=.returned (.tuple #[])/\Core w' X B KK N (DM ss x) gs ds hops settles B4/\Kept (CK B KK) w w':=by
 obtain⟨O,G,D,M,sv,vs,n,h⟩:=h
 obtain⟨is,hi,hsz0,LV,hsz2⟩:=info_parts Nt
 obtain⟨ia,hia,yv,yx,yy⟩:=info_parts O8
 have hmf:∀ (fn:Fn) (first cap:Array Pc) (w:Pb),(Instr.makeFunc fn first cap).run Pf w=.ok (.func fn first cap) w:=λ _ _ _ _=>rfl
 obtain⟨⟨p,hp⟩,q,hq⟩:(∃ p:Nat,x.from'=(p:Int))/\∃ q:Nat,x.to'=(q:Int):=by
  unfold inN at hx;exact⟨⟨x.from'.toNat,by omega⟩,x.to'.toNat,by omega⟩
 have rR:p<N:=by unfold inN at hx;omega
 have hqN:q<N:=by unfold inN at hx;omega
 obtain⟨As,cs,jJ,_,Et⟩:=h.cuts.row
 obtain⟨L,hL⟩:=zn (ss.length)
 rw[hL]at jJ hl Et
 have H0:=zh h
 have HSL:PK (∀ j,sv.ownBlock=some j->j<w.heap.size):=λ j hj=>h.lt (.inr (.inr (.inr (.inr (.inr (.inl hj))))))
 have HX:=zh (show _/\_/\_/\_/\_/\_/\_ from ⟨hK,hB,yq,Cx,hL,AY,jJ⟩)
 obtain⟨f1,t1,xw,e1,a1,b1⟩:=x
 simp only at hp hq
 subst hp
 subst hq
 clear h hx hK hB yq Cx hL AY jJ
 go_enter Tryz.func313,Tryz.ntmps313
 have kY:Ac w (w.alloc (.cells #[i64 p,i64 q,.int .u64 xw,i64 e1,i64 a1,i64 b1] 150)):=(zr _ _).alloc _
 have bY:Am (w.alloc (.cells #[i64 p,i64 q,.int .u64 xw,i64 e1,i64 a1,i64 b1] 150)) w.heap.size 150 #[i64 p,i64 q,.int .u64 xw,i64 e1,i64 a1,i64 b1]:=zv _ _ _
 obtain⟨wY,hwY⟩:=zn (w.alloc (.cells #[i64 p,i64 q,.int .u64 xw,i64 e1,i64 a1,i64 b1] 150))
 rw[hwY]at kY bY
 have y0:=bY.cell 0
 have y1:=bY.cell 1
 simp at y0 y1
 have kZ:Ac wY (wY.alloc (.cells #[i64 p,i64 q] 420)):=(zr _ _).alloc _
 have bZ:Am (wY.alloc (.cells #[i64 p,i64 q] 420)) wY.heap.size 420 #[i64 p,i64 q]:=zv _ _ _
 have iz:=DS (kY.trans kZ) (bY.grew kZ) bZ ((show wY.heap.size=w.heap.size+1 by rw[<- hwY];simp))
 clear bZ bY kY kZ
 have HC:PK (∀ w',Ac (wY.alloc (.cells #[i64 p,i64 q] 420)) w'->w'.cell? ⟨X,2,none⟩=some (.map (some M))/\w'.cell? ⟨wY.heap.size,0,none⟩=some (i64 p)/\w'.cell? ⟨wY.heap.size,1,none⟩=some (i64 q)):=λ w' k=>by
  have a:=(H0.out.blk.grew (iz.out.1.trans k)).cell 2;have c:=(iz.out.2.2.1.grew k).cell 0;have d:=(iz.out.2.2.1.grew k).cell 1;simp at a c d;exact⟨a,c,d⟩
 have LH:PK (∀ w',Ac (wY.alloc (.cells #[i64 p,i64 q] 420)) w'->(Instr.lookup 349 (.map (some M)) (.agg #[i64 p,i64 q]) true).run Pf w'=.ok (.tuple #[i64 (((atF ss p q).getD 0:Nat):Int),.bool (atF ss p q).isSome]) w'):=λ w' k=>F6.at (H0.out.map.grew (iz.out.1.trans k)) (p:Int) (q:Int) (by omega) (by omega)
 obtain⟨at0,yr⟩:=zn (atF ss p q)
 have lG:=zh yr
 rw[yr]at LH
 clear yr
 go_upto_region 2 with fail
 refine rG [] (λ _=>False) ?_
 refine pG 0 14 ?_
 refine pG 1 15 ?_
 refine pG 2 16 ?_
 refine tG 3 17 (y:=λ w' Ah=>by obtain⟨q0,q1,q2⟩:=HC.out w' ((zr _ _).drew.trans Ah);have IH:=LH.out w' ((zr _ _).drew.trans Ah);go_simp<;>with_reducible rfl) (h:=?_)
 refine tG 4 18 (y:=λ w' Ah=>by obtain⟨q0,q1,q2⟩:=HC.out w' ((zr _ _).drew.trans Ah);have IH:=LH.out w' ((zr _ _).drew.trans Ah);go_simp<;>with_reducible rfl) (h:=?_)
 refine tG 5 19 (y:=λ w' Ah=>by obtain⟨q0,q1,q2⟩:=HC.out w' ((zr _ _).drew.trans Ah);have IH:=LH.out w' ((zr _ _).drew.trans Ah);go_simp<;>with_reducible rfl) (h:=?_)
 refine pG 6 13 ?_
 refine pG 7 20 ?_
 refine pG 8 21 ?_
 refine pG 9 5 ?_
 refine pG 10 6 ?_
 refine dG ?_
 obtain⟨W3,Ni⟩:=zn ((wY.alloc (.cells #[i64 p,i64 q] 420)).drew)
 have K3:PK (Ac (wY.alloc (.cells #[i64 p,i64 q] 420)) W3):=by show Ac _ _;rw[<- Ni];exact(zr _ _).drew
 rw[Ni]
 clear Ni LH HC
 go_upto_region 3 with fail
 go_cut [35] (λ s wx=>s=.bool false/\wx=W3.drew)
 case first =>
  cases at0 with
  | none=>as_aux_lemma =>
   simp only[PI,PG];refine rG [] (λ _=>False) ?_;refine pG 0 22 ?_;refine pG 1 23 ?_;refine qG 2 24 ?_;refine qG 3 25 ?_;refine qG 4 26 ?_;refine qG 5 27 ?_;refine qG 6 28 ?_;refine qG 7 29 ?_;refine qG 8 30 ?_;refine qG 9 31 ?_;refine qG 10 32 ?_;refine qG 11 33 ?_;refine qG 12 34 ?_;refine pG 13 35 ?_;refine dG ?_;go_wp2_with fail;go_meet;exact⟨rfl,rfl⟩
  | some i=>as_aux_lemma =>
   simp only[PF,PH];obtain⟨si,lW,_,_⟩:=FV lG.out;have AH:=HX.out.2.2.2.1 i si lG.out lW;obtain⟨A3,c3,tU,fK,hc3⟩:=H0.out.cuts.row;obtain⟨b,off,rfl,hb,_,_,s2,_⟩:=fK i si lW;have D5:=I2 lG.out;rw[HX.out.2.2.2.2.1]at D5 hc3 tU;have i0:(0:Int)<=(i:Int):=(by omega);have i1:(i:Int)<(L:Int):=(by omega);obtain⟨sw,wC⟩:=zn (si.w);rw[wC]at s2 AH;simp only at AH;have hle:¬ sw<=xw:=(by omega);have MT:PK (∀ w',Ac W3 w'->w'.cell? ⟨X,3,none⟩=some (.slice (some ⟨b,off,none⟩) L c3)/\w'.cell? ⟨b,off+i*6+2,none⟩=some (.int .u64 sw)/\w'.cell? ⟨w.heap.size,2,none⟩=some (.int .u64 xw)):=λ w' k=>by
    have a:=(H0.out.blk.grew (iz.out.1.trans (K3.out.trans k))).cell 3;have d:=(iz.out.2.1.grew (K3.out.trans k)).cell 2;rw[tU]at a;simp at a d;exact⟨a,ze (iz.out.1.trans (K3.out.trans k)) s2,d⟩
   clear lW tU fK s2 hb wC AH;refine rG [] (λ _=>False) ?_;refine pG 0 22 ?_;refine pG 1 23 ?_;refine pG 2 24 ?_;refine pG 3 25 ?_;refine pG 4 26 ?_;refine tF 5 27 MT.out ((zr _ _).drew) ?_;refine pG 6 28 ?_;refine pG 7 29 ?_;refine pG 8 30 ?_;refine tF 9 31 MT.out ((zr _ _).drew) ?_;refine pG 10 32 ?_;refine tF 11 33 MT.out ((zr _ _).drew) ?_;refine pG 12 34 ?_;refine pG 13 35 ?_;refine dG ?_;go_wp2_with fail;go_meet;exact⟨rfl,rfl⟩
 case rest =>
  obtain⟨rfl,rfl⟩:=hcut;obtain⟨W4,hW4⟩:=zn (W3.drew);have k34:Ac (wY.alloc (.cells #[i64 p,i64 q] 420)) W4:=by rw[<- hW4];exact K3.out.trans (zr _ _).drew
  have H4:=Gt (H0.out.grew (iz.out.1.trans k34)) (iz.out.2.1.grew k34) (iz.out.2.2.1.grew k34) (iz.out.1.trans k34) iz.out.2.2.2;rw[hW4];clear hW4 k34 K3 H0 lG iz;have HC4:PK (∀ w',Ac W4 w'->w'.cell? ⟨X,2,none⟩=some (.map (some M))/\w'.cell? ⟨X,3,none⟩=some (.slice As L cs)/\w'.cell? ⟨wY.heap.size,0,none⟩=some (i64 p)/\w'.cell? ⟨wY.heap.size,1,none⟩=some (i64 q)):=λ w' k=>by
   have a:=(H4.out.1.blk.grew k).cell 2;have e:=(H4.out.1.blk.grew k).cell 3;have c:=(H4.out.2.2.1.grew k).cell 0;have d:=(H4.out.2.2.1.grew k).cell 1;rw[HX.out.2.2.2.2.2.2]at e;simp at a c d e;exact⟨a,e,c,d⟩
  go_upto_region 4 with fail;refine rG [10] (λ _=>False) ?_;refine pG 0 36 ?_;refine pG 1 37 ?_;refine pG 2 38 ?_;refine tF 3 39 HC4.out ((zr _ _).drew) ?_;refine tF 4 40 HC4.out ((zr _ _).drew) ?_;refine pG 5 41 ?_;refine pG 6 42 ?_;refine pG 7 43 ?_;refine tF 8 44 HC4.out ((zr _ _).drew) ?_;refine pG 9 45 ?_;refine DH 10 (λ K Aj=>?_);obtain⟨wM,CW,hM,kM,szM⟩:=F6.store (H4.out.1.map.grew (zr (λ _=>False) W4).drew) (p:Int) (q:Int) L (by omega) (by omega);go_simp;refine Aj _ (λ h=>absurd (by simp) h) ?_;clear Aj;refine dG ?_;have H5:PK (Bf wM X B KK N (EG (λ p=>atF ss p.1 p.2) ((p:Int),(q:Int)) L) (λ i=>AS ss (i:Int)) ss gs ds hops settles B4 O G D M sv vs (n+1)/\Am wM w.heap.size 150 #[i64 p,i64 q,.int .u64 xw,i64 e1,i64 a1,i64 b1]/\Kept (CK B KK) w wM):=by
   have hg:=H4.out.1.grew (zr (λ _=>False) W4).drew;refine⟨hg.toMap kM hM,(H4.out.2.1.grew (zr (λ _=>False) W4).drew).kept kM (λ e=>?_),((Ac.kept H4.out.2.2.2.1).trans (Ac.kept (zr (λ _=>False) W4).drew)).then kM (λ i hi e=>by
    have e:i=M:=e;rw[e];exact hg.base M (by simp))⟩
   exact hg.map.noBlk (H4.out.2.1.grew (zr (λ _=>False) W4).drew) e.symm
  clear hM kM CW HC4 szM;have nX:¬ sv.ownBlock=some X:=Ax H5.out.1.cuts H5.out.1.blk (by decide);have nY:¬ sv.ownBlock=some w.heap.size:=λ e=>by have:=HSL.out _ e;omega
  have ff:PK (∀ w',Kept (λ j=>sv.ownBlock=some j) wM w'->w'.cell? ⟨X,3,none⟩=some (.slice As L cs)/\w'.cell? ⟨w.heap.size,0,none⟩=some (i64 p)/\w'.cell? ⟨w.heap.size,1,none⟩=some (i64 q)/\w'.cell? ⟨w.heap.size,2,none⟩=some (.int .u64 xw)/\w'.cell? ⟨w.heap.size,3,none⟩=some (i64 e1)/\w'.cell? ⟨w.heap.size,4,none⟩=some (i64 a1)/\w'.cell? ⟨w.heap.size,5,none⟩=some (i64 b1)):=λ w' k=>by
   have a:=(H5.out.1.blk.kept k nX).cell 3;have hb:=H5.out.2.1.kept k nY;have b0:=hb.cell 0;have b1:=hb.cell 1;have b2:=hb.cell 2;have b3:=hb.cell 3;have b4:=hb.cell 4;have b5:=hb.cell 5;rw[HX.out.2.2.2.2.2.2]at a;simp at a b0 b1 b2 b3 b4 b5;exact⟨a,b0,b1,b2,b3,b4,b5⟩
  have AV:=H5.out.1.cuts;unfold Fz at AV;rw[HX.out.2.2.2.2.1]at AV;have HO:=zh AV;have Df:=H5.out.2.2.size;have hB2:B<=wM.heap.size:=Nat.le_trans HX.out.2.1 Df;clear AV H4;go_upto_region 5 with fail;refine rG [10] (λ j=>sv.ownBlock=some j) ?_;refine pG 0 46 ?_;refine pG 1 47 ?_;refine pG 2 48 ?_;refine pG 3 49 ?_;refine tF 4 50 ff.out ((zr (λ j=>sv.ownBlock=some j) wM).drew) ?_;refine tF 5 51 ff.out ((zr (λ j=>sv.ownBlock=some j) wM).drew) ?_;refine sG 6 52 (λ K Aj=>?_);refine zA1 #[(0,.tmp 51)] rfl (i64 p) (i64 q) (.int .u64 xw) (i64 e1) (i64 a1) (i64 b1) (by as_aux_lemma=>kernel_rfl) ?_;refine Aj _ _ (λ _=>(zr _ _).alloc _) ?_;clear Aj;simp only[sA];refine sG 7 53 (λ K Aj=>?_);have Nd:PK (∀ j u,(ma ⟨(p:Int),(q:Int),xw,e1,a1,b1⟩)[j]? = some u->(wM.drew.alloc (.cells #[i64 p,i64 q,.int .u64 xw,i64 e1,i64 a1,i64 b1] 150)).cell? ((⟨wM.drew.heap.size,0,none⟩:Pd).add j)=some u):=Pu (heap_alloc_new wM.drew (.cells #[i64 p,i64 q,.int .u64 xw,i64 e1,i64 a1,i64 b1] 150));refine wp_append_lies _ (.tmp 50) (.tmp 52) 85 (by rfl) B 150 is (.agg #[i64 0,i64 0,.int .u64 0,i64 0,i64 0,i64 0]) 6 48 Ph hi hsz0 LV hsz2 (by rfl) (by omega) (.slice As L cs) L (Db ss) (by rfl) (by rw[<- HX.out.2.2.2.2.2.2];exact Ac.own ((zr (λ _=>False) wM).drew.alloc _) HO.out) ⟨wM.drew.heap.size,0,none⟩ 1 1 (ma ⟨(p:Int),(q:Int),xw,e1,a1,b1⟩) (by rfl) (by rfl) Nd.out ?_ (by omega) ?_ ?_ ?_ _ rfl ?_
  ·intro u hu;simp[ma]at hu;rcases hu with rfl | rfl | rfl | rfl | rfl | rfl<;>rfl
  ·unfold maxLen;omega
  ·omega
  ·simp;omega
  intro g cp wa Bb AD Iv _;refine Aj _ _ (λ _=>(zr _ _).grown AD (λ k hk=>.inl (by rw[HX.out.2.2.2.2.2.2];exact hk))) ?_;clear Aj;simp only[sA];refine pG 8 54 ?_;refine pG 9 55 ?_;refine DH 10 (λ K Aj=>?_);have kA:Kept (λ j=>sv.ownBlock=some j) wM wa:=((zr (λ j=>sv.ownBlock=some j) wM).drew.alloc _).grown AD (λ k hk=>.inl (by rw[HX.out.2.2.2.2.2.2];exact hk));have bXa:=H5.out.1.blk.kept kA nX;have xa:=bXa.cell 3;have xf:=bXa.frozen 3;simp at xa;go_simp;refine Aj _ (λ h=>absurd (by simp) h) ?_;clear Aj;refine dG ?_;have H6:PK (Bf (wa.setCell ⟨X,3,none⟩ (.slice (some ⟨g,0,none⟩) (L+1) cp)) X B KK N (EG (λ p=>atF ss p.1 p.2) ((p:Int),(q:Int)) L) (λ i=>AS ss (i:Int)) (ss++[⟨(p:Int),(q:Int),xw,e1,a1,b1⟩]) gs ds hops settles B4 O G D M (.slice (some ⟨g,0,none⟩) (L+1) cp) vs (n+1)/\Am (wa.setCell ⟨X,3,none⟩ (.slice (some ⟨g,0,none⟩) (L+1) cp)) w.heap.size 150 #[i64 p,i64 q,.int .u64 xw,i64 e1,i64 a1,i64 b1]/\Kept (CK B KK) w (wa.setCell ⟨X,3,none⟩ (.slice (some ⟨g,0,none⟩) (L+1) cp))/\∀ j,KK j->j<(wa.setCell ⟨X,3,none⟩ (.slice (some ⟨g,0,none⟩) (L+1) cp)).heap.size):=by
   have hszA:=kA.size;have ho:Fz wa B (.slice (some ⟨g,0,none⟩) (L+1) cp) (ss++[⟨(p:Int),(q:Int),xw,e1,a1,b1⟩]):=by
    unfold Fz;rw[F_,HX.out.2.2.2.2.1,OC];exact Bb
   have hb:∀ j,(PN (some ⟨g,0,none⟩) (L+1) cp).ownBlock=some j->sv.ownBlock=some j\/wM.heap.size<=j:=λ j hj=>by
    obtain rfl:g=j:=PC hj;rcases Iv with h | h
    ·exact .inl (by rw[HX.out.2.2.2.2.2.2];exact h)
    ·exact .inr (by rw[h];simp)
   have hKM:∀ j,KK j->j<wM.heap.size:=λ j hj=>PE (HX.out.1 j hj) Df;have c:=H5.out.1.toCuts kA ho hb hKM;have kX:Kept (·=X) wa (wa.setCell ⟨X,3,none⟩ (.slice (some ⟨g,0,none⟩) (L+1) cp)):=(zr (·=X) wa).setCell (p:=⟨X,3,none⟩) (.inl rfl) _;refine⟨c,(H5.out.2.1.kept kA nY).kept kX (λ e=>Ay (H5.out.2.1.kept kA nY) (H5.out.1.blk.kept kA nX) (by decide) e),(H5.out.2.2.then kA (λ i hi e=>H5.out.1.base i (by simp[e]))).then kX (λ i hi e=>by
    have e:i=X:=e;rw[e];exact H5.out.1.base X (by simp)),λ j hj=>by have:=hKM j hj;simp;omega⟩
  obtain⟨W6,N9⟩:=zn (wa.setCell ⟨X,3,none⟩ (.slice (some ⟨g,0,none⟩) (L+1) cp));obtain⟨sv2,hsv2⟩:=zn (PN (some ⟨g,0,none⟩) (L+1) cp);rw[N9,hsv2]at H6;rw[N9];clear N9 hsv2 Bb AD Iv Nd kA bXa xa xf H5 ff HO nX nY Df;obtain⟨v,hv⟩:=zx (l:=vs) (i:=p) (by rw[H6.out.1.len];exact rR);have hr:=H6.out.1.rows p v hv;obtain⟨Ar,cr,hve,_,hcr⟩:=hr.row;obtain⟨lr,GM⟩:=zn ((AS ss (p:Int)).length);rw[GM]at hve hcr;have hl9:lr<=900:=by rw[<- GM];exact HX.out.2.2.2.2.2.1
  have p0:(0:Int)<=(p:Int):=(by omega);have p1:(p:Int)<(N:Int):=(by omega);have mX:¬ v.ownBlock=some X:=Ax hr H6.out.1.blk (by decide);have mY:¬ v.ownBlock=some w.heap.size:=Ax hr H6.out.2.1 (by decide);have mO:¬ v.ownBlock=some O:=Ax hr H6.out.1.outs (by decide);have sl:PK (∀ w',Kept (λ j=>v.ownBlock=some j) W6 w'->w'.cell? ⟨X,0,none⟩=some (.slice (some ⟨O,0,none⟩) N N)/\w'.cell? ⟨w.heap.size,0,none⟩=some (i64 p)/\w'.cell? ⟨w.heap.size,1,none⟩=some (i64 q)/\w'.cell? ⟨w.heap.size,2,none⟩=some (.int .u64 xw)/\w'.cell? ⟨O,p,none⟩=some (.slice Ar lr cr)/\w'.frozen? ⟨O,p,none⟩=false):=λ w' k=>by
   have a:=(H6.out.1.blk.kept k mX).cell 0;have hb:=H6.out.2.1.kept k mY;have b0:=hb.cell 0;have b1:=hb.cell 1;have b2:=hb.cell 2;have c:=(H6.out.1.outs.kept k mO).cell p;have f:=(H6.out.1.outs.kept k mO).frozen p;simp at a b0 b1 b2;rw[c,List.getElem?_toArray,hv,hve];exact⟨a,b0,b1,b2,rfl,f⟩
  have HD:=zh (df B w.heap.size v (AS ss (p:Int)) ⟨(p:Int),(q:Int),xw,e1,a1,b1⟩ W6.drew (hr.grew (zr (λ _=>False) W6).drew) (H6.out.2.1.grew (zr (λ _=>False) W6).drew) (by rw[GM];omega));have HV:=DK hv hve hr;rw[hve]at HD;clear hv hr hve;go_upto_region 6 with fail;refine rG [] (λ j=>v.ownBlock=some j) ?_;refine pG 0 56 ?_;refine pG 1 57 ?_;refine pG 2 58 ?_;refine pG 3 59 ?_;refine tF 4 60 sl.out ((zr (λ j=>v.ownBlock=some j) W6).drew) ?_;refine pG 5 61 ?_;refine tF 6 62 sl.out ((zr (λ j=>v.ownBlock=some j) W6).drew) ?_;refine pG 7 63 ?_;refine tF 8 64 sl.out ((zr (λ j=>v.ownBlock=some j) W6).drew) ?_;refine sG 9 65 (λ K Aj=>?_);go_simp;refine Aj _ _ (λ _=>(zr _ _)) ?_;clear Aj;simp only[sA];refine sG 10 66 (λ K Aj=>?_);go_simp;refine HD.out.mono ?_;rintro e wD ⟨v1,rfl,hO,tS,kD⟩;show K _ _;refine Aj v1 _ (λ _=>kD.mono λ i hi h=>by rw[HV.out.2.1];exact h) ?_;clear Aj;simp only[sA];refine pG 11 7 ?_;refine dG ?_;have k7:Kept (λ j=>v.ownBlock=some j) W6 wD:=(zr (λ j=>v.ownBlock=some j) W6).drew.trans (kD.mono λ i hi h=>by rw[HV.out.2.1];exact h);have H7:PK (CO wD B v1 ((AS ss (p:Int)).filter (λ a=>!decide (a.1=(q:Int))))/\Kept (λ j=>v.ownBlock=some j) W6 wD/\∀ j,v1.ownBlock=some j->v.ownBlock=some j):=⟨hO,k7,λ j hj=>by rw[HV.out.2.1];exact tS j hj⟩;clear kD hO tS HD k7;obtain⟨l1,jC⟩:=zn ((AS ss (p:Int)).filter (λ a=>!decide (a.1=(q:Int))));have hl1s:l1.length<=900:=by rw[<- jC];exact Nat.le_trans (List.length_filter_le _ _) (by omega)
  rw[jC]at H7;have HL1:=zh jC;obtain⟨n1,EI⟩:=zn (l1.length);have fT:=H7.out.1;unfold CO at fT;rw[EI]at fT hl1s;have HO7:=BP fT EI;have hszD:=H7.out.2.1.size;have hB7:B<=wD.heap.size:=by have:=H6.out.2.2.1.size;have:=HX.out.2.1;omega
  clear jC fT EI;go_upto_region 7 with fail;refine rG [16] (λ j=>v1.ownBlock=some j) ?_;refine pG 0 67 ?_;refine pG 1 68 ?_;refine pG 2 69 ?_;refine pG 3 70 ?_;refine tG 4 71 (y:=λ w' Ah=>by obtain⟨q0,q1,q2,q3,q4,_⟩:=sl.out w' (H7.out.2.1.trans (((zr (λ j=>v1.ownBlock=some j) wD).drew.trans Ah).mono λ i hi h=>H7.out.2.2 i h));go_simp<;>with_reducible rfl) (h:=?_);refine pG 5 72 ?_;refine tG 6 73 (y:=λ w' Ah=>by obtain⟨q0,q1,q2,q3,q4,_⟩:=sl.out w' (H7.out.2.1.trans (((zr (λ j=>v1.ownBlock=some j) wD).drew.trans Ah).mono λ i hi h=>H7.out.2.2 i h));go_simp<;>with_reducible rfl) (h:=?_);refine pG 7 74 ?_;refine pG 8 75 ?_;refine tG 9 76 (y:=λ w' Ah=>by obtain⟨q0,q1,q2,q3,q4,_⟩:=sl.out w' (H7.out.2.1.trans (((zr (λ j=>v1.ownBlock=some j) wD).drew.trans Ah).mono λ i hi h=>H7.out.2.2 i h));go_simp<;>with_reducible rfl) (h:=?_);refine pG 10 77 ?_;refine tG 11 78 (y:=λ w' Ah=>by obtain⟨q0,q1,q2,q3,q4,_⟩:=sl.out w' (H7.out.2.1.trans (((zr (λ j=>v1.ownBlock=some j) wD).drew.trans Ah).mono λ i hi h=>H7.out.2.2 i h));go_simp<;>with_reducible rfl) (h:=?_);refine pG 12 79 ?_;refine sG 13 80 (λ K Aj=>?_);go_simp;refine Aj _ _ (λ _=>(zr _ _).alloc _) ?_;clear Aj;simp only[sA];refine sG 14 81 (λ K Aj=>?_);have hN2:PK (∀ j u,(Cq ((q:Int),xw))[j]? = some u->(wD.drew.alloc (.cells #[i64 q,.int .u64 xw] 419)).cell? ((⟨wD.drew.heap.size,0,none⟩:Pd).add j)=some u):=Pu (heap_alloc_new wD.drew (.cells #[i64 q,.int .u64 xw] 419));refine wp_append_lies _ (.tmp 74) (.tmp 80) 413 (by rfl) B 419 ia (.agg #[i64 0,.int .u64 0]) 2 16 Pp hia yv yx yy (by rfl) (by omega) v1 n1 (DV l1) (by rfl) (Ac.own ((zr (λ _=>False) wD).drew.alloc _) HO7.out.1) ⟨wD.drew.heap.size,0,none⟩ 1 1 (Cq ((q:Int),xw)) (by rfl) (by rfl) hN2.out ?_ (by omega) ?_ ?_ ?_ _ rfl ?_
  ·intro u hu;simp[Cq]at hu;rcases hu with rfl | rfl<;>rfl
  ·unfold maxLen;omega
  ·omega
  ·simp;omega
  intro g2 vw wb C5 E5 dS _;refine Aj _ _ (λ _=>(zr _ _).grown E5 (λ k hk=>.inl hk)) ?_;clear Aj;simp only[sA];refine pG 15 82 ?_;refine DH 16 (λ K Aj=>?_);have kB:Kept (λ j=>v1.ownBlock=some j) wD wb:=((zr (λ j=>v1.ownBlock=some j) wD).drew.alloc _).grown E5 (λ k hk=>.inl hk);obtain⟨q0,q1,q2,q3,q4,q5⟩:=sl.out wb (H7.out.2.1.trans (kB.mono λ i hi h=>H7.out.2.2 i h));go_simp;refine Aj _ (λ h=>absurd (by simp) h) ?_;clear Aj;refine dG ?_;have HF:PK (Core (wb.setCell ⟨O,p,none⟩ (.slice (some ⟨g2,0,none⟩) (n1+1) vw)) X B KK N (DM ss ⟨(p:Int),(q:Int),xw,e1,a1,b1⟩) gs ds hops settles B4/\Kept (CK B KK) w (wb.setCell ⟨O,p,none⟩ (.slice (some ⟨g2,0,none⟩) (n1+1) vw))):=by
   have kB2:Kept (λ j=>v.ownBlock=some j) W6 wb:=H7.out.2.1.trans (kB.mono λ i hi h=>H7.out.2.2 i h);have ho:CO wb B (.slice (some ⟨g2,0,none⟩) (n1+1) vw) (l1++[((q:Int),xw)]):=by
    unfold CO;rw[F_,HO7.out.2,Gb];exact C5
   have hb:∀ j,(PN (some ⟨g2,0,none⟩) (n1+1) vw).ownBlock=some j->v.ownBlock=some j\/W6.heap.size<=j:=λ j hj=>by
    obtain rfl:g2=j:=PC hj;rcases dS with h | h
    ·exact .inl (H7.out.2.2 _ h)
    ·exact .inr (by rw[h];simp;omega)
   have c:=(H6.out.1.toRow HV.out.1 kB2 ho hb H6.out.2.2.2).congr (mf':=λ y=>atF (DM ss ⟨(p:Int),(q:Int),xw,e1,a1,b1⟩) y.1 y.2) (rf':=λ i=>AS (DM ss ⟨(p:Int),(q:Int),xw,e1,a1,b1⟩) (i:Int)) (λ y=>by rw[sr HX.out.2.2.1 y,HX.out.2.2.2.2.1]) (λ i=>by rw[sx HX.out.2.2.1 rfl i];simp only;rw[HL1.out]);refine⟨⟨O,G,D,M,_,_,_,by rw[HX.out.2.2.1]at c ⊢;exact c⟩,(H6.out.2.2.1.then kB2 (λ i hi e=>H6.out.1.base i (.inr (.inr (.inr (.inr (.inr (.inr ⟨v,zm HV.out.1,e⟩)))))))).setCell (p:=⟨O,p,none⟩) (.inl (H6.out.1.base O (by simp))) _⟩
  clear C5 E5 dS kB H6 H7 sl HV HO7 HL1;go_wp2_with fail;go_end0;exact⟨rfl,HF.out⟩
end Go.Proofs.YtepelooebggliaaGreatDoor
