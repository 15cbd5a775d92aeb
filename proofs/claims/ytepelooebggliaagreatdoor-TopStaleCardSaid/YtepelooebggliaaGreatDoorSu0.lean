/- Walks of functions that the law reaches, and plain laws, part 1 of 21: lemmas for the proof in the last text; no condition. Shortened by program. -/
import Derived.OrdersHeld
import Derived.WalkKit
import Derived.Lib.Hide
import Derived.WalkSpells
import Derived.WalkLawsBesides
import Derived.Test.YtepelooebggliaaGreatDoorProg
import Derived.Deep.AppendLies
import Derived.Deep.QuietTactic
import Derived.BigQuiet
import Derived.Outline
import Derived.Maps.Keyed
import Derived.Maps.Range
import Derived.DeepKeys4
open List renaming getElem?_set_ne->A_,getElem?_eq_some_iff->B_,length_set->C_,getElem?_set->D_,getElem?_cons_succ->E_,getD_eq_getElem?_getD->F_,set_cons_succ->G_,getElem?_cons_zero->H_,flatMap_cons->I_,set_cons_zero->J_,getElem?_of_mem->K_,getElem?_modify->L_,set_set->M_,mem_singleton->N_,getElem?_append_right->O_,getElem?_append_left->Pa,length_cons->Pb,set_append_right->Pc,mem_iff_getElem?->Pd,set_comm->Pe,pairwise_cons->Pf,mem_map->Pg,length_map->Ph,pairwise_iff_getElem->Pj,getElem?_eq_getElem->Pk,dropLast_cons_cons->Pm,take_of_length_le->Pn,dropLast_eq_take->Po,dropLast_sublist->Pp,length_dropLast->Pq,flatMap_append->Pr,length_append->Ps,pairwise_map->Pt,all_eq_true->Pu,getElem_map->Pv,getElem_mem->Pw
open Go renaming Value->Px,World->Py,TypeId->Pz,Deferred->PA,Oper->PB,MapEntry->PC,Program->PD,Addr->PE,Act->PF,Calls->PG
open Option.some renaming inj->PH,injEq->PI
open Array renaming getElem?_eq_some_iff->PJ,toList_modify->PK,getElem?_eq_none->PL,toList_push->PM,replicate->PN
open Go.Region renaming wanted->PO,ready->PQ,binds->PR,Mode->PS,noSelect_spec->PT,free_spec->PU
open Go.MapKept renaming run_getObj_map->PV
open Nat renaming lt_of_lt_of_le->PW,lt_or_ge->PX,zero_add->PY,strongRecOn->PZ,le_trans->P0,le_refl->P2
open Go.Result renaming andThen->P3
open Int renaming lt_or_le->P4,toNat_natCast->P5
open Go.Proofs.Tryz renaming prog->P6,ntmps441->P7,func441->P8,ntmps6->P9,func6->P_,ntmps24->Qa,ntmps25->Qb,func24->Qc,func25->Qd
open Bool renaming and_eq_true->Qe
open Go.Instr renaming mapUpdate->Qf,lookup->Qg,next->Qh
open Go.Oper renaming wp_mono->Qi
open Go.RowKit.Below renaming heap_alloc->Qj,heap_setCell->Qk
open Go.Act renaming put->Ql,eval->Qm
open List.Perm renaming swap->Qn,refl->Qo
set_option maxHeartbeats 16000000
set_option maxRecDepth 100000
set_option linter.unusedVariables false
set_option linter.unusedSimpArgs false
namespace Go.Proofs.YtepelooebggliaaGreatDoor
open Go.RowKit
theorem zn.{u} {α : Sort u} (a : α) : ∃ b, a = b := ⟨_, rfl⟩
theorem zh {p : Prop} (h : p) : Hid p := Lib.hid h
structure Kept (F:Nat->Prop) (w w':Py):Prop where
 os:w'.os=w.os
 tape:w'.tape=w.tape
 output:w'.output=w.output
 size:w.heap.size<=w'.heap.size
 block:∀ k,k<w.heap.size->¬ F k->w'.heap[k]? = w.heap[k]?
abbrev Ac (w w':Py):Prop:=Kept (λ _=>False) w w'
section
variable {F G:Nat->Prop} {a b c w w':Py}
theorem Kept.refl (F:Nat->Prop) (w:Py):Kept F w w:=⟨rfl,rfl,rfl,P2 _,λ _ _ _=>rfl⟩
theorem Kept.trans (h:Kept F a b) (k:Kept F b c):Kept F a c :=
 ⟨k.os.trans h.os,k.tape.trans h.tape,k.output.trans h.output,P0 h.size k.size,λ i hi hf=>(k.block i (PW hi h.size) hf).trans (h.block i hi hf)⟩
theorem Kept.mono (h:Kept F a b) (hFG:∀ k,k<a.heap.size->F k->G k):Kept G a b:=⟨h.os,h.tape,h.output,h.size,λ i hi hf=>h.block i hi λ hF=>hf (hFG i hi hF)⟩
theorem Ac.kept (h:Ac a b):Kept F a b:=h.mono λ _ _ h=>h.elim
theorem Kept.then (h:Kept F a b) (k:Kept G b c) (hG:∀ i,i<a.heap.size->G i->F i):Kept F a c :=
 ⟨k.os.trans h.os,k.tape.trans h.tape,k.output.trans h.output,P0 h.size k.size,λ i hi hf=>(k.block i (PW hi h.size) λ hg=>hf (hG i hi hg)).trans (h.block i hi hf)⟩
theorem Kept.grew (h:Kept F a b) (k:Ac b c):Kept F a c:=h.then k λ _ _ h=>h.elim
theorem Kept.drew (h:Kept F a w):Kept F a w.drew:=⟨h.os,h.tape,h.output,h.size,h.block⟩
theorem Kept.drewN (h:Kept F a w) (n:Nat):Kept F a (w.drewN n):=⟨h.os,h.tape,h.output,h.size,h.block⟩
theorem Kept.alloc (h:Kept F a w) (o:Obj):Kept F a (w.alloc o) :=
 ⟨h.os,h.tape,h.output,P0 h.size (by simp),λ i hi hf=>(Qj w o i (PW hi h.size)).trans (h.block i hi hf)⟩
theorem Kept.setCell (h:Kept F a w) {p:PE} (hp:F p.block\/a.heap.size<=p.block) (u:Px):Kept F a (w.setCell p u) :=
 ⟨h.os,h.tape,h.output,by simpa [World.setCell] using h.size,λ i hi hf=>(Qk w p u i (by
  rintro rfl;rcases hp with hp | hp
  ·exact hf hp
  ·omega)).trans (h.block i hi hf)⟩
theorem Kept.grown {row:Option Nat} (h:Kept F a w) (hg:w.grownBy w' row) (hr:∀ k,row=some k->F k\/a.heap.size<=k):Kept F a w' :=
 ⟨hg.os.trans h.os,hg.tape.trans h.tape,hg.output.trans h.output,P0 h.size hg.size,λ i hi hf=>(hg.block i (PW hi h.size) (λ e=>by
  rcases hr i e.symm with h1 | h1
  ·exact hf h1
  ·omega)).trans (h.block i hi hf)⟩
theorem Kept.of_below {B:Nat} (h:Below B w w') (hB:∀ k,B<=k->k<w.heap.size->F k):Kept F w w' :=
 ⟨h.os,h.tape,h.output,h.size,λ i hi hf=>h.block i (Nat.lt_of_not_le λ hle=>hf (hB i hle hi))⟩
theorem Ac.of_below (h:Below w.heap.size w w'):Ac w w':=Kept.of_below h λ k h1 h2=>by omega
theorem Kept.to_below {B:Nat} (h:Kept F w w') (hB:∀ k,F k->B<=k) (hs:B<=w.heap.size):Below B w w' :=
 ⟨h.os,h.tape,h.output,h.size,λ i hi=>h.block i (by omega) λ hf=>by have:=hB i hf;omega⟩
theorem Ac.below (h:Ac w w'):Below w.heap.size w w':=h.to_below (λ _ h=>h.elim) (P2 _)
theorem Kept.cell (h:Kept F w w') {p:PE} {v:Px} (hc:w.cell? p=some v) (hf:¬ F p.block):w'.cell? p=some v :=
 (World.cell?_of_block (h.block p.block (World.block_lt_of_cell? w p hc) hf)).trans hc
theorem Ac.cell (h:Ac w w') {p:PE} {v:Px} (hc:w.cell? p=some v):w'.cell? p=some v:=Kept.cell h hc (λ h=>h)
theorem Kept.own (h:Kept F w w') {base n size:Nat} {e:Pz} {v:Px} {xs:List Px} (ho:w.ownsRow base e size v n xs) (hf:∀ k,v.ownBlock=some k->¬ F k):w'.ownsRow base e size v n xs:=by
 refine⟨ho.1,?_⟩;rcases ho.2 with hn | ⟨g,cap,cur,rfl,hb,jA,rest⟩
 ·exact .inl hn
 ·exact .inr ⟨g,cap,cur,rfl,hb,(h.block g (PJ.1 jA).1 (hf g rfl)).trans jA,rest⟩
theorem Ac.own (h:Ac w w') {base n size:Nat} {e:Pz} {v:Px} {xs:List Px} (ho:w.ownsRow base e size v n xs):w'.ownsRow base e size v n xs:=Kept.own h ho λ _ _ h=>h
end
theorem Ac.alloc_drew (w:Py) (o:Obj):Ac w (w.alloc o).drew:=((Kept.refl _ _).alloc o).drew
def Am (w:Py) (g:Nat) (t:Pz) (cs:Array Px):Prop:=w.heap[g]? = some (.cells cs t (0,0))
section
variable {F:Nat->Prop} {w w':Py} {g:Nat} {t:Pz} {cs:Array Px}
theorem Am.lt (h:Am w g t cs):g<w.heap.size:=(PJ.1 h).1
theorem Am.cell (h:Am w g t cs) (i:Nat):w.cell? ⟨g,i,none⟩=cs[i]? := cell_of_row w g i cs t (0,0) h
theorem Am.frozen (h:Am w g t cs) (i:Nat):w.frozen? ⟨g,i,none⟩=false:=frozen_of_row w g i cs t h
theorem Am.new (w:Py) (t:Pz) (cs:Array Px):Am (w.alloc (.cells cs t)) w.heap.size t cs:=heap_alloc_new w _
theorem Am.drew (h:Am w g t cs):Am w.drew g t cs:=h
theorem Am.alloc (h:Am w g t cs) (o:Obj):Am (w.alloc o) g t cs:=(Qj w o g h.lt).trans h
theorem Am.set (h:Am w g t cs) (i:Nat) (u:Px):Am (w.setCell ⟨g,i,none⟩ u) g t (cs.setIfInBounds i u):=heap_setCell_same w g i cs t u h
theorem Am.far (h:Am w g t cs) {p:PE} (hp:g≠p.block) (u:Px):Am (w.setCell p u) g t cs:=(Qk w p u g hp).trans h
theorem Am.kept (h:Am w g t cs) (hk:Kept F w w') (hf:¬ F g):Am w' g t cs:=(hk.block g h.lt hf).trans h
theorem Am.grew (h:Am w g t cs) (hk:Ac w w'):Am w' g t cs:=h.kept hk λ h=>h
theorem Am.grown {row:Option Nat} (h:Am w g t cs) (hb:w.grownBy w' row) (hg:some g≠row):Am w' g t cs:=(hb.block g h.lt hg).trans h
end
theorem J1 {w:Py} {b off i:Nat} {v:Px} (h:w.cell? ((⟨b,off,none⟩:PE).add i)=some v):w.cell? ⟨b,off+i,none⟩=some v:=by
 rw[<- h];congr 1;unfold Addr.add;split<;>simp_all
theorem Gn {w:Py} {x:PE} {v:Px} (h:w.cell? (x.add 0)=some v):∃ b off,x=⟨b,off,none⟩:=by
 have h2:=World.cell?_spot h;obtain⟨b,off,spot⟩:=x;simp only[Addr.add,if_true]at h2;exact⟨b,off,by rw[h2]⟩
section
variable {P:PD} {ops:Array PB} {Q:Exit->PF->Py->Prop} {md:PS} {E:List Nat} {F:Nat->Prop}
def AK (P:PD) (md:PS) (ops:Array PB) (E:List Nat) (F:Nat->Prop) (Q:Exit->PF->Py->Prop):Nat->Array Bool->PF->Py->Prop
 | 0,listed,a,w=>PQ md ops listed=[]/\Q .normal a w
 | fuel+1,listed,a,w =>
  (PQ md ops listed=[]->Q .normal a w) /\
  ∀ i∈PQ md ops listed,wpOp P ops Q i (λ a' w'=>(i∉E->Kept F w w')/\AK P md ops E F Q fuel (listed.setIfInBounds i true) a' w') a w
theorem Gr:∀ (fuel:Nat) (listed:Array Bool) (a:PF) (w:Py),AK P md ops E F Q fuel listed a w->wpAny P md ops Q fuel listed a w
 | 0,_,_,_,h=>h
 | fuel+1,_,_,_,h=>⟨h.1,λ i hi=>wpOp_mono (λ a' w' h'=>Gr fuel _ a' w' h'.2) (h.2 i hi)⟩
def behind (md:PS) (ops:Array PB) (listed:Array Bool) (E:List Nat) (i:Nat):Bool :=
 E.all λ e=>listed.getD e true||match ops[e]? with | some o=>o.after.any λ x=>PR md x&&x.on==i | none=>true
theorem Ow {listed:Array Bool} {i j:Nat} (h:behind md ops listed E i=true):behind md ops (listed.setIfInBounds j true) E i=true:=by
 simp only[behind,Pu]at h ⊢;intro e he;have h1:=h e he;by_cases hje:j=e
 ·subst hje;have:(listed.setIfInBounds j true).getD j true=true:=by
   rcases PX j listed.size with hl | hl
   ·simp[hl]
   ·simp[PL (show (listed.setIfInBounds j true).size<=j by simpa using hl)]
  simp only[this,Bool.true_or]
 ·rw[getD_set_ne true hje];exact h1
theorem cW {listed:Array Bool} {i j:Nat} {oj:PB} (h:behind md ops listed E i=true) (hj:ops[j]? = some oj) (hun:listed.getD j true=false)
  (Cx:∀ e∈oj.after,PR md e=true->e.on≠i):j∉E:=by
 intro hjE
 simp only[behind,Pu]at h
 have h1:=h j hjE
 simp only[hj,hun,Bool.false_or]at h1
 obtain⟨x,hx,hb⟩:=Array.any_eq_true'.1 h1
 simp only[Qe,beq_iff_eq]at hb
 exact Cx x hx hb.1 hb.2
theorem Fi {S:Py->Prop} {i:Nat} {oi:PB} {v:Px} (hi:ops[i]? = some oi) (hsel:∀ (j:Nat) (o:PB) cs b,ops[j]? = some o->o.op≠.select cs b)
  (hQ:∀ c a w,Q (.panic c) (a.put oi.dst v) w->Q (.panic c) a w) (B:Array Bool->Prop)
  (hSK:∀ (listed:Array Bool) j oj,B listed->ops[j]? = some oj->listed.getD j true=false->(∀ e∈oj.after,PR md e=true->e.on≠i)->∀ w w',S w->(j∉E->Kept F w w')->S w')
  (hB:∀ (listed:Array Bool) j,B listed->B (listed.setIfInBounds j true)) :
  ∀ (fuel:Nat) (listed:Array Bool) (a:PF) (w:Py),
   (∀ j oj,ops[j]? = some oj->j≠i->listed.getD j true=false->(∀ e∈oj.after,PR md e=true->e.on≠i)->oi.apart ops oj=true) ->
   i∈PQ md ops listed->YieldsIf P ops S oi v a->S w->B listed ->
   AK P md ops E F Q fuel (listed.setIfInBounds i true) (a.put oi.dst v) w->AK P md ops E F Q (fuel+1) listed a w:=by
 intro fuel
 induction fuel with
 | zero =>
  intro listed a w _ hr hy hS _ H;refine⟨λ h=>(by rw[h]at hr;cases hr),λ j hj=>?_⟩;by_cases hji:j=i
  ·subst hji;exact hy.wpOp hi hS ⟨λ _=>Kept.refl F w,H⟩
  ·have:=ready_mono hj hji;rw[H.1]at this;cases this
 | succ fuel ih =>
  intro listed a w vM hr hy hS hBl H;refine⟨λ h=>(by rw[h]at hr;cases hr),λ j hj=>?_⟩;by_cases hji:j=i
  ·subst hji;exact hy.wpOp hi hS ⟨λ _=>Kept.refl F w,H⟩
  ·have h1:=H.2 j (ready_mono hj hji);obtain⟨yM,oj,hoj,hall⟩:=mem_ready.1 hj;have jF:∀ e∈oj.after,PR md e=true->e.on≠i:=λ e he hb heq=>by
    have h1:=hall e he hb
    have h0:=(mem_ready.1 hr).1
    rw[heq]at h1
    rcases PX i listed.size with h' | h'
    ·simp[h']at h0 h1;rw[h0]at h1;cases h1
    ·simp[PL h']at h1
   have yh:wpOp P ops Q j (λ a' w'=>S w'/\((j∉E->Kept F w w')/\AK P md ops E F Q fuel ((listed.setIfInBounds i true).setIfInBounds j true) a' w')) (a.put oi.dst v) w :=
    wpOp_mono (λ a' w' h3=>⟨hSK listed j oj hBl hoj yM jF w w' hS h3.1,h3⟩) h1
   have h2:=wpOp_putIf hoj (vM j oj hoj hji yM jF) (λ cs b=>hsel i oi cs b hi) (λ cs b=>hsel j oj cs b hoj) hQ hy yh;have yG:∀ k ok,ops[k]? = some ok->k≠i->(listed.setIfInBounds j true).getD k true=false ->
     (∀ e∈ok.after,PR md e=true->e.on≠i)->oi.apart ops ok=true:=λ k ok hk DX hun Cx=>by
    refine vM k ok hk DX ?_ Cx
    by_cases hjk:j=k
    ·subst hjk;exact yM
    ·rw[getD_set_ne true hjk]at hun;exact hun
   refine wpOp_mono (λ a' w' h3=>⟨h3.2.2.1,ih (listed.setIfInBounds j true) a' w' yG (ready_mono hr (Ne.symm hji)) h3.1 h3.2.1 (hB _ _ hBl) ?_⟩) h2;rw[Array.setIfInBounds_comm _ _ hji];exact h3.2.2.2
def Calm (Q:Exit->PF->Py->Prop):Exit->PF->Py->Prop
 | .panic _,_,_=>False
 | e,a,w=>Q e a w
theorem Calm.imp {Q:Exit->PF->Py->Prop}:∀ (e:Exit) (a:PF) (w:Py),Calm Q e a w->Q e a w:=λ e a w h=>by
 cases e<;>first | exact h | exact(h:False).elim
def ED (md:PS) (ops:Array PB) (listed:Array Bool) (i:Nat):Bool:=Region.noSelect ops&&Region.free md ops listed i&&(PQ md ops listed).contains i
theorem FG {o:Option PB} {oi:PB} {d:Tmp} (hi:o=some oi) (hd:o.bind (·.dst)=some d):oi.dst=some d:=by
 subst hi;exact hd
theorem AN (i d:Nat) {oi:PB} {v:Px} {fuel:Nat} {listed:Array Bool} {T:Array Px} {D:List PA} {w:Py} (hi:ops[i]? = some oi)
  (Ba:ED md ops listed i=true) (hd:(ops[i]?).bind (·.dst)=some d) (hw:PO oi (yielded ops T)=true)
  (hy:∀ w',(execOp (Qm ⟨T,D⟩) oi).run P w'=.ok (.value v) w')
  (h:AK P md ops E F (Calm Q) fuel (listed.setIfInBounds i true) ⟨T.setIfInBounds d v,D⟩ w):AK P md ops E F (Calm Q) (fuel+1) listed ⟨T,D⟩ w:=by
 simp only[ED,Qe]at Ba
 refine Fi (S:=λ _=>True) hi (PT Ba.1.1) (λ _ _ _ h=>h) (λ _=>True) (λ _ _ _ _ _ _ _ _ _ _ _=>trivial) (λ _ _ _=>trivial) fuel listed _ w (PU hi Ba.1.2) (by simpa using Ba.2) (.inl ⟨hw,λ w' _=>hy w'⟩) trivial trivial ?_
 rw[FG hi hd]
 exact h
theorem Bh (i d:Nat) {oi:PB} {v:Px} {fuel:Nat} {listed:Array Bool} {T:Array Px} {D:List PA} {w:Py} (hi:ops[i]? = some oi)
  (Ba:(ED md ops listed i&&behind md ops listed E i)=true) (hd:(ops[i]?).bind (·.dst)=some d) (hw:PO oi (yielded ops T)=true)
  (hy:∀ w',Kept F w w'->(execOp (Qm ⟨T,D⟩) oi).run P w'=.ok (.value v) w')
  (h:AK P md ops E F (Calm Q) fuel (listed.setIfInBounds i true) ⟨T.setIfInBounds d v,D⟩ w):AK P md ops E F (Calm Q) (fuel+1) listed ⟨T,D⟩ w:=by
 simp only[ED,Qe]at Ba
 refine Fi (S:=Kept F w) hi (PT Ba.1.1.1) (λ _ _ _ h=>h) (λ l=>behind md ops l E i=true)
  (λ l j oj hb hj hun Cx w1 w2 h1 h2=>h1.trans (h2 (cW hb hj hun Cx))) (λ l j hb=>Ow hb) fuel listed _ w (PU hi Ba.1.1.2) (by simpa using Ba.1.2) (.inl ⟨hw,hy⟩) (Kept.refl F w) Ba.2 ?_
 rw[FG hi hd]
 exact h
theorem bI (i d:Nat) {oi:PB} {fuel:Nat} {listed:Array Bool} {T:Array Px} {D:List PA} {w:Py} (hi:ops[i]? = some oi)
  (Ba:ED md ops listed i=true) (hd:(ops[i]?).bind (·.dst)=some d) (hw:PO oi (yielded ops T)=false)
  (h:AK P md ops E F (Calm Q) fuel (listed.setIfInBounds i true) ⟨T.setIfInBounds d undef,D⟩ w):AK P md ops E F (Calm Q) (fuel+1) listed ⟨T,D⟩ w:=by
 simp only[ED,Qe]at Ba
 refine Fi (S:=λ _=>True) hi (PT Ba.1.1) (λ _ _ _ h=>h) (λ _=>True) (λ _ _ _ _ _ _ _ _ _ _ _=>trivial) (λ _ _ _=>trivial) fuel listed _ w (PU hi Ba.1.2) (by simpa using Ba.2) (.inr ⟨hw,rfl⟩) trivial trivial ?_
 rw[FG hi hd]
 exact h
theorem bJ (i d:Nat) {oi:PB} {fuel:Nat} {listed:Array Bool} {T:Array Px} {D:List PA} {w:Py} (hi:ops[i]? = some oi)
  (hr:PQ md ops listed=[i]) (hd:(ops[i]?).bind (·.dst)=some d) (hw:PO oi (yielded ops T)=true)
  (h:∀ K:PF->Py->Prop,(∀ (v:Px) (w':Py),(i∉E->Kept F w w')->AK P md ops E F Q fuel (listed.setIfInBounds i true) ⟨T.setIfInBounds d v,D⟩ w'->K (Ql ⟨T,D⟩ (some d) v) w')->({ oi with dst:=some d }).wp P ⟨T,D⟩ w K Q):AK P md ops E F Q (fuel+1) listed ⟨T,D⟩ w:=by
 refine⟨λ h0=>(by rw[hr]at h0;cases h0),λ j hj=>?_⟩
 rw[hr,N_]at hj
 subst hj
 unfold wpOp
 simp only[hi,hw,if_true]
 have e:({ oi with dst:=some d }:PB)=oi:=by rw[<- FG hi hd]
 rw[<- e]
 refine .inl (Qi ?_ (h (λ a' w'=>∃ v,a'=Ql ⟨T,D⟩ (some d) v/\(j∉E->Kept F w w')/\AK P md ops E F Q fuel (listed.setIfInBounds j true) ⟨T.setIfInBounds d v,D⟩ w') λ v w' h1 h2=>⟨v,rfl,h1,h2⟩))
 rintro a' w' ⟨v,rfl,h1,h2⟩
 exact⟨h1,h2⟩
theorem NY (i:Nat) {oi:PB} {fuel:Nat} {listed:Array Bool} {T:Array Px} {D:List PA} {w:Py} (hi:ops[i]? = some oi)
  (hr:PQ md ops listed=[i]) (hd:(ops[i]?).bind (·.dst)=none) (hw:PO oi (yielded ops T)=true)
  (h:∀ K:PF->Py->Prop,(∀ (w':Py),(i∉E->Kept F w w')->AK P md ops E F Q fuel (listed.setIfInBounds i true) ⟨T,D⟩ w'->K ⟨T,D⟩ w')->({ oi with dst:=none }).wp P ⟨T,D⟩ w K Q):AK P md ops E F Q (fuel+1) listed ⟨T,D⟩ w:=by
 refine⟨λ h0=>(by rw[hr]at h0;cases h0),λ j hj=>?_⟩
 rw[hr,N_]at hj
 subst hj
 unfold wpOp
 simp only[hi,hw,if_true]
 have hdn:oi.dst=none:=by rw[hi]at hd;exact hd
 have e:({ oi with dst:=none }:PB)=oi:=by rw[<- hdn]
 rw[<- e]
 refine .inl (Qi ?_ (h (λ a' w'=>a'=⟨T,D⟩/\(j∉E->Kept F w w')/\AK P md ops E F Q fuel (listed.setIfInBounds j true) ⟨T,D⟩ w') λ w' h1 h2=>⟨rfl,h1,h2⟩))
 rintro a' w' ⟨rfl,h1,h2⟩
 exact⟨h1,h2⟩
theorem bC {fuel:Nat} {listed:Array Bool} {a:PF} {w:Py} (hr:PQ md ops listed=[]) (h:Q .normal a w):AK P md ops E F (Calm Q) fuel listed a w:=by
 cases fuel with
 | zero=>exact⟨hr,h⟩
 | succ n=>exact⟨λ _=>h,by rw[hr];simp⟩
theorem sAq:(∀ l:List PB,l.toArray.size=l.length)/\(∀ (x:PB) (l:List PB),(x::l).length=l.length+1)/\([]:List PB).length=0:=⟨λ _=>rfl,λ _ _=>rfl,rfl⟩
theorem sA:(∀ (l:List Px) (i:Nat) (a:Px),l.toArray.setIfInBounds i a=(l.set i a).toArray)/\(∀ (x:Px) (xs:List Px) (a:Px),(x::xs).set 0 a=a::xs)/\(∀ (x:Px) (xs:List Px) (n:Nat) (a:Px),(x::xs).set (n+1) a=x::xs.set n a):=⟨λ _ _ _=>List.setIfInBounds_toArray ..,λ _ _ _=>J_ ..,λ _ _ _ _=>G_ ..⟩
theorem pG (i d:Nat) {oi:PB} {v:Px} {fuel:Nat} {listed:Array Bool} {T T':Array Px} {D:List PA} {w:Py} (h:AK P md ops E F (Calm Q) fuel (listed.setIfInBounds i true) ⟨T',D⟩ w) (hi:ops[i]? = some oi:=by rfl)
  (Ba:ED md ops listed i=true:=by kernel_rfl) (hd:(ops[i]?).bind (·.dst)=some d:=by rfl) (hw:PO oi (yielded ops T)=true:=by rfl)
  (hy:∀ w',(execOp (Qm ⟨T,D⟩) oi).run P w'=.ok (.value v) w':=by (intro w';go_simp<;>with_reducible rfl)) (hT:T.setIfInBounds d v=T':=by (simp only[sA];rfl)):AK P md ops E F (Calm Q) (fuel+1) listed ⟨T,D⟩ w:=AN i d hi Ba hd hw hy (by rw[hT];exact h)
theorem tG (i d:Nat) {oi:PB} {v:Px} {fuel:Nat} {listed:Array Bool} {T T':Array Px} {D:List PA} {w:Py} (hi:ops[i]? = some oi:=by rfl)
  (Ba:(ED md ops listed i&&behind md ops listed E i)=true:=by kernel_rfl) (hd:(ops[i]?).bind (·.dst)=some d:=by rfl) (hw:PO oi (yielded ops T)=true:=by rfl) (y:∀ w',Kept F w w'->(execOp (Qm ⟨T,D⟩) oi).run P w'=.ok (.value v) w')
  (hT:T.setIfInBounds d v=T':=by (simp only[sA];rfl)) (h:AK P md ops E F (Calm Q) fuel (listed.setIfInBounds i true) ⟨T',D⟩ w):AK P md ops E F (Calm Q) (fuel+1) listed ⟨T,D⟩ w:=Bh i d hi Ba hd hw y (by rw[hT];exact h)
theorem tF (i d:Nat) {A:Py->Prop} {w0 w:Py} (f:∀ w',Kept F w0 w'->A w') (k:Kept F w0 w) {oi:PB} {v:Px} {fuel:Nat} {listed:Array Bool} {T T':Array Px} {D:List PA} (h:AK P md ops E F (Calm Q) fuel (listed.setIfInBounds i true) ⟨T',D⟩ w) (hi:ops[i]? = some oi:=by rfl)
  (Ba:(ED md ops listed i&&behind md ops listed E i)=true:=by kernel_rfl) (hd:(ops[i]?).bind (·.dst)=some d:=by rfl) (hw:PO oi (yielded ops T)=true:=by rfl) (y:∀ w',A w'->(execOp (Qm ⟨T,D⟩) oi).run P w'=.ok (.value v) w':=by (intro w' q;go_simp<;>with_reducible rfl))
  (hT:T.setIfInBounds d v=T':=by (simp only[sA];rfl)):AK P md ops E F (Calm Q) (fuel+1) listed ⟨T,D⟩ w:=tG i d hi Ba hd hw (hT:=hT) (y:=λ w' g=>y w' (f w' (k.trans g))) (h:=h)
theorem qG (i d:Nat) {oi:PB} {fuel:Nat} {listed:Array Bool} {T T':Array Px} {D:List PA} {w:Py} (h:AK P md ops E F (Calm Q) fuel (listed.setIfInBounds i true) ⟨T',D⟩ w) (hi:ops[i]? = some oi:=by rfl)
  (Ba:ED md ops listed i=true:=by kernel_rfl) (hd:(ops[i]?).bind (·.dst)=some d:=by rfl) (hw:PO oi (yielded ops T)=false:=by rfl)
  (hT:T.setIfInBounds d undef=T':=by (simp only[sA];rfl)):AK P md ops E F (Calm Q) (fuel+1) listed ⟨T,D⟩ w:=bI i d hi Ba hd hw (by rw[hT];exact h)
theorem dG {fuel:Nat} {listed:Array Bool} {a:PF} {w:Py} (h:Q .normal a w) (hr:PQ md ops listed=[]:=by kernel_rfl):AK P md ops E F (Calm Q) fuel listed a w:=bC hr h
theorem sG (i d:Nat) {oi:PB} {fuel:Nat} {listed:Array Bool} {T:Array Px} {D:List PA} {w:Py}
  (h:∀ K:PF->Py->Prop,(∀ (v:Px) (w':Py),(i∉E->Kept F w w')->AK P md ops E F Q fuel (listed.setIfInBounds i true) ⟨T.setIfInBounds d v,D⟩ w'->K (Ql ⟨T,D⟩ (some d) v) w')->({ oi with dst:=some d }).wp P ⟨T,D⟩ w K Q) (hi:ops[i]? = some oi:=by rfl)
  (hr:PQ md ops listed=[i]:=by kernel_rfl) (hd:(ops[i]?).bind (·.dst)=some d:=by rfl) (hw:PO oi (yielded ops T)=true:=by rfl):AK P md ops E F Q (fuel+1) listed ⟨T,D⟩ w:=bJ i d hi hr hd hw h
theorem DH (i:Nat) {oi:PB} {fuel:Nat} {listed:Array Bool} {T:Array Px} {D:List PA} {w:Py}
  (h:∀ K:PF->Py->Prop,(∀ (w':Py),(i∉E->Kept F w w')->AK P md ops E F Q fuel (listed.setIfInBounds i true) ⟨T,D⟩ w'->K ⟨T,D⟩ w')->({ oi with dst:=none }).wp P ⟨T,D⟩ w K Q) (hi:ops[i]? = some oi:=by rfl)
  (hr:PQ md ops listed=[i]:=by kernel_rfl) (hd:(ops[i]?).bind (·.dst)=none:=by rfl) (hw:PO oi (yielded ops T)=true:=by rfl):AK P md ops E F Q (fuel+1) listed ⟨T,D⟩ w:=NY i hi hr hd hw h
theorem Lq (E:List Nat) (F:Nat->Prop) {id:Nat} {a:PF} {w:Py} (hm:P.follows .mixedOrders=true)
  (h:AK P .any ops E F (Calm Q) ops.size (PN ops.size false) a w.drew):(Code.region id ops true).wp P Q a w :=
 Code.wp_mono Calm.imp (wp_region_any hm (Gr _ _ _ _ h))
theorem rG (E:List Nat) (F:Nat->Prop) {id n:Nat} {a:PF} {w:Py} (h:AK P .any ops E F (Calm Q) n (PN n false) a w.drew) (hm:P.follows .mixedOrders=true:=by kernel_rfl) (hn:ops.size=n:=by (simp only[sAq,Nat.reduceAdd];rfl)):(Code.region id ops true).wp P Q a w:=Lq E F hm (by rw[hn];exact h)
end
theorem zb (w:Py) (cs:Array Px) (t:Pz) {T:Nat} (hT:w.heap.size=T):∃ w1,w.alloc (.cells cs t)=w1/\Ac w w1/\Am w1 T t cs:=⟨_,rfl,(Kept.refl _ _).alloc _,by rw[<- hT];exact Am.new w t cs⟩
theorem zg (w:Py) (o:Obj):∃ w1,w.alloc o=w1/\Ac w w1:=⟨_,rfl,(Kept.refl _ _).alloc _⟩
theorem CE {w:Py} {T:Nat} {t:Pz} {a b:Px} (h:Am w T t #[a,b]):w.cell? ⟨T,0,none⟩=some a/\w.cell? ⟨T,1,none⟩=some b:=⟨h.cell 0,h.cell 1⟩
theorem mu {w:Py} {T:Nat} {t:Pz} {a b c:Px} (h:Am w T t #[a,b,c]):w.cell? ⟨T,0,none⟩=some a/\w.cell? ⟨T,1,none⟩=some b/\w.cell? ⟨T,2,none⟩=some c:=⟨h.cell 0,h.cell 1,h.cell 2⟩
theorem LF {w:Py} {T:Nat} {t:Pz} {a b c d e:Px} (h:Am w T t #[a,b,c,d,e]):w.cell? ⟨T,0,none⟩=some a/\w.cell? ⟨T,1,none⟩=some b/\w.cell? ⟨T,2,none⟩=some c/\w.cell? ⟨T,3,none⟩=some d/\w.cell? ⟨T,4,none⟩=some e:=⟨h.cell 0,h.cell 1,h.cell 2,h.cell 3,h.cell 4⟩
theorem zk7 {w:Py} {T:Nat} {t:Pz} {a b c d e f g:Px} (h:Am w T t #[a,b,c,d,e,f,g]):w.cell? ⟨T,0,none⟩=some a/\w.cell? ⟨T,1,none⟩=some b/\w.cell? ⟨T,2,none⟩=some c/\w.cell? ⟨T,3,none⟩=some d/\w.cell? ⟨T,4,none⟩=some e/\w.cell? ⟨T,5,none⟩=some f/\w.cell? ⟨T,6,none⟩=some g:=⟨h.cell 0,h.cell 1,h.cell 2,h.cell 3,h.cell 4,h.cell 5,h.cell 6⟩
theorem zr (F:Nat->Prop) (w:Py):Kept F w w:=Kept.refl F w
theorem Ha (F:Nat->Prop) (w:Py) (o:Obj):Kept F w (w.alloc o):=(Kept.refl _ _).alloc o
theorem ze {w w':Py} (h:Ac w w') {p:PE} {v:Px} (hc:w.cell? p=some v):w'.cell? p=some v:=Ac.cell h hc
theorem zv (w:Py) (t:Pz) (cs:Array Px):Am (w.alloc (.cells cs t)) w.heap.size t cs:=Am.new w t cs
theorem zl (n:Nat):n<=n:=P2 n
theorem zy {P:PD} {fn:Func} {R:Ending->Py->Prop} {a:PF} {w:Py} {v:Px} (hr:(results fn a.tmps).run P w=.ok v w) (hd:a.defers=[]) (hR:R (.returned v) w):bodyPost P fn R .ret a w:=⟨hd,v,hr,hR⟩
theorem zf {p:Prop} [Decidable p] (h:¬ p):decide p=false:=decide_eq_false h
theorem zt {p:Prop} [Decidable p] (h:p):decide p=true:=decide_eq_true h
theorem zm {α:Type} {l:List α} {i:Nat} {a:α} (h:l[i]? = some a):a∈l:=List.mem_of_getElem? h
theorem zq {α:Type} {l:List α} {i:Nat} (h:i<l.length):l[i]? = some l[i]:=Pk h
theorem zx {α:Type} {l:List α} {i:Nat} (h:i<l.length):∃ x,l[i]? = some x:=⟨_,Pk h⟩
theorem BP {p q:Prop} (a:p) (b:q):Hid (p/\q):=⟨a,b⟩
theorem DK {p q r:Prop} (a:p) (b:q) (c:r):Hid (p/\q/\r):=⟨a,b,c⟩
theorem DS {p q r s:Prop} (a:p) (b:q) (c:r) (d:s):Hid (p/\q/\r/\s):=⟨a,b,c,d⟩
theorem Gt {p q r s t:Prop} (a:p) (b:q) (c:r) (d:s) (e:t):Hid (p/\q/\r/\s/\t):=⟨a,b,c,d,e⟩
theorem JQ {p q r s t u:Prop} (a:p) (b:q) (c:r) (d:s) (e:t) (f:u):Hid (p/\q/\r/\s/\t/\u):=⟨a,b,c,d,e,f⟩
end Go.Proofs.YtepelooebggliaaGreatDoor
namespace Go.Proofs.YtepelooebggliaaGreatDoor.Hp
abbrev Itm:=Int×Int
def lessI (p q:Itm):Bool:=decide (p.2<q.2\/p.2=q.2/\p.1<q.1)
def Ei (l:List Itm) (a:List Int) (i:Nat) (x:Itm):List Itm×List Int:=(l.set i x,a.set x.1.toNat (i:Int))
def Dl (l:List Itm) (a:List Int) (i:Nat) (x:Itm):List Itm×List Int :=
 if h:0<i then
  if lessI x (l.getD ((i-1)/2) (0,0))=true then Dl (Ei l a i (l.getD ((i-1)/2) (0,0))).1 (Ei l a i (l.getD ((i-1)/2) (0,0))).2 ((i-1)/2) x
  else Ei l a i x
 else Ei l a i x
termination_by i
decreasing_by omega
def N4 (N:Nat) (l:List Itm):Prop:=∀ e∈l,0<=e.1/\e.1<(N:Int)
theorem N4.set {N:Nat} {l:List Itm} (h:N4 N l) (i:Nat) {e:Itm} (he:0<=e.1/\e.1<(N:Int)):N4 N (l.set i e):=by
 intro x hx;rcases List.mem_or_eq_of_mem_set hx with hx | rfl
 ·exact h x hx
 ·exact he
def BE (l:List Itm) (i:Nat):Nat:=if 2*i+2<l.length/\lessI (l.getD (2*i+2) (0,0)) (l.getD (2*i+1) (0,0))=true then 2*i+2 else 2*i+1
theorem Ie (l:List Itm) (i:Nat):i<BE l i:=by unfold BE;split<;>omega
def BU (l:List Itm) (a:List Int) (i:Nat) (x:Itm):List Itm×List Int :=
 if h:BE l i<l.length/\lessI (l.getD (BE l i) (0,0)) x=true then BU (Ei l a i (l.getD (BE l i) (0,0))).1 (Ei l a i (l.getD (BE l i) (0,0))).2 (BE l i) x
 else Ei l a i x
termination_by l.length-i
decreasing_by
 have:=Ie l i
 simp only[Ei,C_]
 omega
theorem lessI_iff (p q:Itm):lessI p q=true↔p.2<q.2\/p.2=q.2/\p.1<q.1:=by simp[lessI]
theorem GP {p q:Itm} (h:lessI p q=true):¬ lessI q p=true:=by rw[lessI_iff]at *;omega
theorem FM (p:Itm):¬ lessI p p=true:=by rw[lessI_iff];omega
theorem DR {p q r:Itm} (h:¬ lessI p q=true) (k:¬ lessI q r=true):¬ lessI p r=true:=by rw[lessI_iff]at *;omega
theorem gl {p q r:Itm} (h:¬ lessI p q=true) (k:lessI r q=true):¬ lessI p r=true:=by rw[lessI_iff]at *;omega
theorem ey {p q:Itm} (h:¬ lessI p q=true) (k:¬ lessI q p=true):p=q:=by
 rw[lessI_iff]at *;obtain⟨a,b⟩:=p;obtain⟨c,d⟩:=q;simp only[Prod.mk.injEq]at *;omega
structure Ok (N:Nat) (l:List Itm) (a:List Int):Prop where
 rng:N4 N l
 len:a.length=N
 here:∀ (i:Nat) (e:Itm),l[i]? = some e->a[e.1.toNat]? = some (i:Int)
 gone:∀ p:Nat,p<N->(∀ e∈l,e.1≠(p:Int))->a[p]? = some (-1)
theorem Ok.at_inj {N:Nat} {l:List Itm} {a:List Int} (h:Ok N l a) {i j:Nat} {e f:Itm} (hi:l[i]? = some e) (hj:l[j]? = some f) (hv:e.1=f.1):i=j:=by
 have h1:=h.here i e hi;have h2:=h.here j f hj;rw[hv,h2]at h1;simp only[PI]at h1;omega
theorem Ok.swap {N:Nat} {l:List Itm} {a:List Int} (h:Ok N l a) {i j:Nat} {x y:Itm} (fR:i≠j) (hi:l[i]? = some x) (hj:l[j]? = some y) :
  Ok N ((l.set i y).set j x) ((a.set y.1.toNat (i:Int)).set x.1.toNat (j:Int)):=by
 have hxv:=h.rng x (zm hi)
 have hyv:=h.rng y (zm hj)
 have D5:i<l.length:=(B_.1 hi).1
 have rN:j<l.length:=(B_.1 hj).1
 have Bm:x.1≠y.1:=λ e=>fR (h.at_inj hi hj e)
 refine⟨(h.rng.set i hyv).set j hxv,by simp[h.len],?_,?_⟩
 ·intro k e hk;rw[D_]at hk;split at hk
  ·rename_i hjk;subst hjk;rw[if_pos (by simpa using rN)]at hk;obtain rfl:x=e:=(by simpa using hk);rw[D_,if_pos rfl,if_pos (by rw[C_,h.len];omega)]
  ·rename_i hjk;rw[D_]at hk;split at hk
   ·rename_i fS;subst fS;obtain rfl:y=e:=(by simpa [D5] using hk);rw[A_ (by omega),D_,if_pos rfl,if_pos (by rw[h.len];omega)]
   ·rename_i fS;have hev:=h.rng e (zm hk);have h1:e.1≠x.1:=λ q=>fS (h.at_inj hk hi q).symm;have h2:e.1≠y.1:=λ q=>hjk (h.at_inj hk hj q).symm;rw[A_ (by omega),A_ (by omega)];exact h.here k e hk
 ·intro p hp Cx;have h1:x.1≠(p:Int):=Cx x (zm (i:=j) (by simp[rN]));have h2:y.1≠(p:Int):=Cx y (zm (i:=i) (by rw[A_ (by omega)];simp[D5]));rw[A_ (by omega),A_ (by omega)];refine h.gone p hp λ e he=>?_;obtain⟨k,hk⟩:=K_ he;by_cases DX:k=i
  ·subst DX;rw[hi]at hk;obtain rfl:=PH hk;exact h1
  ·by_cases hkj:k=j
   ·subst hkj;rw[hj]at hk;obtain rfl:=PH hk;exact h2
   ·exact Cx e (zm (i:=k) (by rw[A_ (by omega),A_ (by omega)];exact hk))
theorem swap_perm:∀ {l:List Itm} {i j:Nat} {x y:Itm},i≠j->l[i]? = some x->l[j]? = some y->((l.set i y).set j x).Perm l
 | [],i,j,x,y,_,h,_=>by simp at h
 | z::l,0,0,x,y,h,_,_=>absurd rfl h
 | z::l,0,j+1,x,y,_,hi,hj=>by
  simp only[H_,PI]at hi;subst hi;rw[E_]at hj;simp only[J_,G_];exact swap_head l j z y hj
 | z::l,i+1,0,x,y,_,hi,hj=>by
  simp only[H_,PI]at hj;subst hj;rw[E_]at hi;simp only[J_,G_];exact swap_head l i z x hi
 | z::l,i+1,j+1,x,y,h,hi,hj=>by
  rw[E_]at hi hj;simp only[G_];exact(swap_perm (by omega) hi hj).cons z
where
 swap_head:∀ (l:List Itm) (j:Nat) (z y:Itm),l[j]? = some y->(y::l.set j z).Perm (z::l)
 | [],j,z,y,h=>by simp at h
 | u::l,0,z,y,h=>by
  simp only[H_,PI]at h;subst h;simp only[J_];exact Qn z u l
 | u::l,j+1,z,y,h=>by
  rw[E_]at h;simp only[G_];exact(Qn u y _).trans (((swap_head l j z y h).cons u).trans (Qn z u l))
def HO (R:Nat->Prop) (l:List Itm):Prop:=∀ (k:Nat) (e f:Itm),0<k->¬ R k->l[k]? = some e->l[(k-1)/2]? = some f->¬ lessI e f=true
def HU (l:List Itm) (i:Nat):Prop:=∀ (k:Nat) (e f:Itm),0<i->0<k->(k-1)/2=i->l[k]? = some e->l[(i-1)/2]? = some f->¬ lessI e f=true
theorem HO.mono {R S:Nat->Prop} {l:List Itm} (h:HO R l) (yn:∀ k,R k->S k):HO S l:=λ k e f h0 hn=>h k e f h0 λ hR=>hn (yn k hR)
theorem OL {l:List Itm} {i j:Nat} {x y:Itm} (fR:i≠j) (hi:l[i]? = some x) (hj:l[j]? = some y) (k:Nat) :
  ((l.set i y).set j x)[k]? = if k=j then some x else if k=i then some y else l[k]? := by
 have D5:i<l.length:=(B_.1 hi).1
 have rN:j<l.length:=(B_.1 hj).1
 by_cases h1:k=j
 ·subst h1;simp[rN]
 ·rw[if_neg h1,A_ (by omega)];by_cases h2:k=i
  ·subst h2;simp[D5]
  ·rw[if_neg h2,A_ (by omega)]
structure Oo (N:Nat) (l:List Itm) (r:List Itm×List Int):Prop where
 ok:Ok N r.1 r.2
 perm:r.1.Perm l
 ord:HO (λ _=>False) r.1
theorem De {l:List Itm} {i:Nat} {e:Itm} (h:l[i]? = some e):l.getD i (0,0)=e:=by rw[F_,h];rfl
theorem K9:∀ (i:Nat) (N:Nat) (l:List Itm) (a:List Int) (x:Itm),i<l.length->Ok N (l.set i x) (a.set x.1.toNat (i:Int))->HO (·=i) (l.set i x)->HU (l.set i x) i->Oo N (l.set i x) (Dl l a i x):=by
 intro i;induction i using PZ with
 | _ i ih =>
  intro N l a x D5 Ba ho hu;rw[Dl];have stay:¬ (0<i/\lessI x (l.getD ((i-1)/2) (0,0))=true)->Oo N (l.set i x) (Ei l a i x):=by
   intro Cx;refine⟨Ba,Qo _,?_⟩;intro k e f h0 _ hk hf;replace hk:(l.set i x)[k]? = some e:=hk;replace hf:(l.set i x)[(k-1)/2]? = some f:=hf;by_cases DX:k=i
   ·subst DX;rw[D_,if_pos rfl,if_pos D5]at hk;obtain rfl:=PH hk;rw[A_ (by omega)]at hf;intro hl;exact Cx ⟨h0,by rw[De hf];exact hl⟩
   ·exact ho k e f h0 DX hk hf
  by_cases Mt:0<i
  ·rw[dif_pos Mt];obtain⟨p,hp⟩:=zn ((i-1)/2);have hpi:p<i:=(by omega);obtain⟨y,hy⟩:=zx (l:=l) (i:=p) (by omega);rw[hp,De hy];by_cases hl:lessI x y=true
   ·rw[if_pos hl];have fI:(l.set i x)[i]? = some x:=(by simp[D5]);have OO:(l.set i x)[p]? = some y:=by rw[A_ (by omega)];exact hy
    have wC:=Ba.swap (i:=i) (j:=p) (by omega) fI OO;have GN:=swap_perm (by omega:i≠p) fI OO;have hg:=OL (by omega:i≠p) fI OO;have hyv:x.1≠y.1:=λ e=>by have:=Ba.at_inj fI OO e;omega
    have LC:=Ba.rng x (zm fI);have hyr:=Ba.rng y (zm OO);have e1:((l.set i x).set i y).set p x=(l.set i y).set p x:=(by rw[M_]);have e2:((a.set x.1.toNat (i:Int)).set y.1.toNat (i:Int)).set x.1.toNat (p:Int)=(a.set y.1.toNat (i:Int)).set x.1.toNat (p:Int):=by
     rw[Pe _ _ (by omega),M_,Pe _ _ (by omega)]
    rw[e1,e2]at wC;rw[e1]at GN hg;have key:=ih p hpi N (l.set i y) (a.set y.1.toNat (i:Int)) x (by rw[C_];omega) wC ?_ ?_
    ·exact⟨key.ok,key.perm.trans GN,key.ord⟩
    ·intro k e f h0 vQ hk hf;rw[hg]at hk hf;by_cases DX:k=i
     ·subst DX;rw[if_neg vQ,if_pos rfl]at hk;rw[hp,if_pos rfl]at hf;obtain rfl:=PH hk;obtain rfl:=PH hf;exact GP hl
     ·rw[if_neg vQ,if_neg DX]at hk;by_cases hkq:(k-1)/2=p
      ·rw[if_pos hkq]at hf;obtain rfl:=PH hf;exact gl (ho k e y h0 DX hk (by rw[hkq];exact OO)) hl
      ·rw[if_neg hkq]at hf;by_cases hkr:(k-1)/2=i
       ·rw[if_pos hkr]at hf;obtain rfl:=PH hf;exact hu k e y Mt h0 hkr hk (by rw[hp];exact OO)
       ·rw[if_neg hkr]at hf;exact ho k e f h0 DX hk hf
    ·intro k e f h0 Fj vQ hk hf;rw[hg]at hk hf;rw[if_neg (by omega),if_neg (by omega)]at hf;have hyf:=ho p y f h0 (by omega) OO hf;by_cases DX:k=i
     ·subst DX;rw[if_neg (by omega),if_pos rfl]at hk;obtain rfl:=PH hk;exact hyf
     ·rw[if_neg (by omega),if_neg DX]at hk;exact DR (ho k e y Fj DX hk (by rw[vQ];exact OO)) hyf
   ·rw[if_neg hl];exact stay λ h=>hl (by have:=h.2;rw[hp,De hy]at this;exact this)
  ·rw[dif_neg Mt];exact stay λ h=>Mt h.1
theorem MC {l:List Itm} {i:Nat} {y:Itm} (h:l[BE l i]? = some y):(BE l i-1)/2=i/\∀ k e,0<k->(k-1)/2=i->l[k]? = some e->¬ lessI e y=true:=by
 have hlen:=(B_.1 h).1;unfold BE at h hlen ⊢;by_cases hc:2*i+2<l.length/\lessI (l.getD (2*i+2) (0,0)) (l.getD (2*i+1) (0,0))=true
 ·rw[if_pos hc]at h hlen ⊢;refine⟨by omega,λ k e Fj hk he=>?_⟩;rw[De h]at hc;rcases(show k=2*i+1\/k=2*i+2 by omega) with rfl | rfl
  ·rw[De he]at hc;exact GP hc.2
  ·rw[h]at he;obtain rfl:=PH he;exact FM _
 ·rw[if_neg hc]at h hlen ⊢;refine⟨by omega,λ k e Fj hk he=>?_⟩;rcases(show k=2*i+1\/k=2*i+2 by omega) with rfl | rfl
  ·rw[h]at he;obtain rfl:=PH he;exact FM _
  ·intro hl;exact hc ⟨(B_.1 he).1,by rw[De he,De h];exact hl⟩
theorem ki {l:List Itm} {i:Nat} (h:¬ BE l i<l.length) (k:Nat) (hk:0<k) (hi:(k-1)/2=i):¬ k<l.length:=by
 unfold BE at h;split at h<;>omega
theorem ay (l:List Itm) (i:Nat) (x:Itm):BE (l.set i x) i=BE l i:=by
 unfold BE;rw[C_,F_,F_,A_ (by omega),A_ (by omega),<-F_,<-F_]
theorem MK {N:Nat} {l:List Itm} {a:List Int} {i:Nat} {x:Itm} (D5:i<l.length) (Ba:Ok N (l.set i x) (a.set x.1.toNat (i:Int)))
  (ho:HO (λ k=>k=i\/0<k/\(k-1)/2=i) (l.set i x)) (hu:HU (l.set i x) i) {y:Itm} (hy:l[BE l i]? = some y) (hl:lessI y x=true) :
  Ok N ((l.set i y).set (BE l i) x) ((a.set y.1.toNat (i:Int)).set x.1.toNat (BE l i:Int))/\((l.set i y).set (BE l i) x).Perm (l.set i x)
   /\ HO (λ k=>0<k/\(k-1)/2=BE l i) ((l.set i y).set (BE l i) x)/\HU ((l.set i y).set (BE l i) x) (BE l i):=by
 have AH:=Ie l i
 have hys:(l.set i x)[BE (l.set i x) i]? = some y:=by rw[ay,A_ (by omega)];exact hy
 obtain⟨oU,oG⟩:=MC hys
 rw[ay]at oU
 obtain⟨p,hp⟩:=zn (BE l i)
 rw[hp]at oU hy AH ⊢
 have fI:(l.set i x)[i]? = some x:=by simp[D5]
 have OO:(l.set i x)[p]? = some y:=by rw[A_ (by omega)];exact hy
 have wC:=Ba.swap (i:=i) (j:=p) (by omega) fI OO
 have GN:=swap_perm (by omega:i≠p) fI OO
 have hg:=OL (by omega:i≠p) fI OO
 have hyv:x.1≠y.1:=λ e=>by have:=Ba.at_inj fI OO e;omega
 have LC:=Ba.rng x (zm fI)
 have hyr:=Ba.rng y (zm OO)
 have e1:((l.set i x).set i y).set p x=(l.set i y).set p x:=by rw[M_]
 have e2:((a.set x.1.toNat (i:Int)).set y.1.toNat (i:Int)).set x.1.toNat (p:Int)=(a.set y.1.toNat (i:Int)).set x.1.toNat (p:Int):=by
  rw[Pe _ _ (by omega),M_,Pe _ _ (by omega)]
 rw[e1,e2]at wC
 rw[e1]at GN hg
 refine⟨wC,GN,?_,?_⟩
 ·intro k e f h0 vQ hk hf;rw[hg]at hk hf;rw[if_neg (λ e=>vQ ⟨h0,e⟩)]at hf;by_cases hkq:k=p
  ·subst hkq;rw[if_pos rfl]at hk;rw[oU,if_pos rfl]at hf;obtain rfl:=PH hk;obtain rfl:=PH hf;exact GP hl
  ·rw[if_neg hkq]at hk;by_cases DX:k=i
   ·subst DX;rw[if_pos rfl]at hk;rw[if_neg (by omega)]at hf;obtain rfl:=PH hk;exact hu p y f h0 (by omega) oU OO hf
   ·rw[if_neg DX]at hk;by_cases hkr:(k-1)/2=i
    ·rw[if_pos hkr]at hf;obtain rfl:=PH hf;exact oG k e h0 hkr hk
    ·rw[if_neg hkr]at hf;exact ho k e f h0 (λ h=>h.elim DX λ h=>hkr h.2) hk hf
 ·intro k e f h0 Fj vQ hk hf;rw[hg]at hk hf;rw[oU,if_neg (by omega),if_pos rfl]at hf;obtain rfl:=PH hf;rw[if_neg (by omega),if_neg (by omega)]at hk;exact ho k e y Fj (λ h=>by rcases h with h | ⟨_,h⟩<;>omega) hk (by rw[vQ];exact OO)
theorem Fe {l:List Itm} {a:List Int} {i:Nat} {x y:Itm} (hy:l[BE l i]? = some y) (hl:lessI y x=true):BU l a i x=BU (l.set i y) (a.set y.1.toNat (i:Int)) (BE l i) x:=by
 rw[BU,dif_pos ⟨(B_.1 hy).1,by rw[De hy];exact hl⟩,De hy];rfl
theorem El {l:List Itm} {a:List Int} {i:Nat} {x:Itm} (h:∀ y,l[BE l i]? = some y->¬ lessI y x=true):BU l a i x=Ei l a i x:=by
 rw[BU,dif_neg];rintro ⟨h1,h2⟩;exact h _ (zq h1) (by rw[F_,zq h1]at h2;exact h2)
theorem Lg {l:List Itm} {i:Nat} {x:Itm} {R:Nat->Prop} (D5:i<l.length) (h:∀ y,l[BE l i]? = some y->¬ lessI y x=true) (ho:HO (λ k=>R k\/0<k/\(k-1)/2=i) (l.set i x)):HO R (l.set i x):=by
 intro k e f h0 hR hk hf;by_cases DX:(k-1)/2=i
 ·rw[DX]at hf;rw[D_,if_pos rfl,if_pos D5]at hf;obtain rfl:=PH hf;rw[A_ (by omega)]at hk;rcases PX (BE l i) l.length with AH | Oa
  ·obtain⟨y,hy⟩:∃ y,l[BE l i]? = some y:=⟨_,zq AH⟩;exact DR ((MC hy).2 k e h0 DX hk) (h y hy)
  ·exact absurd (B_.1 hk).1 (ki (Nat.not_lt.2 Oa) k h0 DX)
 ·exact ho k e f h0 (λ h=>h.elim hR λ h=>DX h.2) hk hf
theorem qf:∀ (d i:Nat) (N:Nat) (l:List Itm) (a:List Int) (x:Itm),l.length-i=d->i<l.length->Ok N (l.set i x) (a.set x.1.toNat (i:Int))->HO (λ k=>0<k/\(k-1)/2=i) (l.set i x)->HU (l.set i x) i ->
  Oo N (l.set i x) (BU l a i x)/\∃ k,i<=k/\(BU l a i x).2[x.1.toNat]? = some (k:Int):=by
 intro d
 induction d using PZ with
 | _ d ih =>
  intro i N l a x hd D5 Ba ho hu;have LC:=Ba.rng x (zm (i:=i) (by simp[D5]));have tk:x.1.toNat<a.length:=by have:=Ba.len;rw[C_]at this;omega
  by_cases hs:∃ y,l[BE l i]? = some y/\lessI y x=true
  ·obtain⟨y,hy,hl⟩:=hs;obtain⟨s1,s2,s3,s4⟩:=MK D5 Ba (ho.mono λ k h=>.inr h) hu hy hl;rw[Fe hy hl];have AH:=Ie l i;have hlen:=(B_.1 hy).1;obtain⟨r,k,hk,Lz⟩:=ih ((l.set i y).length-BE l i) (by rw[C_];omega) (BE l i) N (l.set i y) (a.set y.1.toNat (i:Int)) x rfl (by rw[C_];exact hlen) s1 s3 s4;exact⟨⟨r.ok,r.perm.trans s2,r.ord⟩,k,by omega,Lz⟩
  ·have Cx:∀ y,l[BE l i]? = some y->¬ lessI y x=true:=λ y hy hl=>hs ⟨y,hy,hl⟩;rw[El Cx];exact⟨⟨Ba,Qo _,Lg D5 Cx (ho.mono λ k h=>.inr h)⟩,i,zl _,by simp[Ei,tk]⟩
theorem qi {N:Nat} {l:List Itm} {a:List Int} {i:Nat} {x:Itm} (D5:i<l.length) (Ba:Ok N (l.set i x) (a.set x.1.toNat (i:Int)))
  (ho:HO (λ k=>k=i\/0<k/\(k-1)/2=i) (l.set i x)) (hu:HU (l.set i x) i) :
  (BU l a i x=Ei l a i x/\HO (·=i) (l.set i x))\/(Oo N (l.set i x) (BU l a i x)/\∃ k,i<k/\(BU l a i x).2[x.1.toNat]? = some (k:Int)):=by
 by_cases hs:∃ y,l[BE l i]? = some y/\lessI y x=true
 ·obtain⟨y,hy,hl⟩:=hs;obtain⟨s1,s2,s3,s4⟩:=MK D5 Ba ho hu hy hl;right;rw[Fe hy hl];have AH:=Ie l i;have hlen:=(B_.1 hy).1;obtain⟨r,k,hk,Lz⟩:=qf _ (BE l i) N (l.set i y) (a.set y.1.toNat (i:Int)) x rfl (by rw[C_];exact hlen) s1 s3 s4;exact⟨⟨r.ok,r.perm.trans s2,r.ord⟩,k,by omega,Lz⟩
 ·have Cx:∀ y,l[BE l i]? = some y->¬ lessI y x=true:=λ y hy hl=>hs ⟨y,hy,hl⟩;exact .inl ⟨El Cx,Lg D5 Cx ho⟩
theorem gp {l:List Itm} {k u u1:Nat} {e1 e2:Itm} {b:Bool} (hu:2*k+1=u) (jK:u+1=u1) (h1:l[u]? = some e1) (h2:l[u1]? = some e2) (hb:lessI e2 e1=b):BE l k=if b=true then u1 else u:=by
 subst hu jK;have h3:=(B_.1 h2).1;unfold BE;rw[De h1,De h2,hb];cases b
 ·simp
 ·rw[if_pos ⟨h3,rfl⟩,if_pos rfl]
theorem ug {l:List Itm} {k u:Nat} (hu:2*k+1=u) (h:¬ u+1<l.length):BE l k=u:=by
 subst hu;unfold BE;rw[if_neg (λ h1=>h h1.1)]
theorem qh {l:List Itm} {a:List Int} {k j:Nat} {x:Itm} (hl:BE l k=j) (h:l.length<=j):BU l a k x=Ei l a k x :=
 El λ y hy=>by
  rw[hl]at hy;exact absurd (B_.1 hy).1 (by omega)
theorem NO {l:List Itm} {a:List Int} {k j:Nat} {x y:Itm} (hl:BE l k=j) (hy:l[j]? = some y) (hb:lessI y x=false):BU l a k x=Ei l a k x :=
 El λ z hz=>by
  rw[hl,hy]at hz;obtain rfl:=PH hz;simp[hb]
theorem Lh {l:List Itm} {a:List Int} {k j:Nat} {x y:Itm} (hl:BE l k=j) (hy:l[j]? = some y) (hb:lessI y x=true):BU l a k x=BU (l.set k y) (a.set y.1.toNat (k:Int)) j x:=by
 subst hl;exact Fe hy hb
theorem aZ (N:Nat):∀ (d i:Nat) (l:List Itm) (a:List Int) (x:Itm),l.length-i=d->N4 N l->(0<=x.1/\x.1<(N:Int))->(BU l a i x).1.length=l.length/\(BU l a i x).2.length=a.length/\N4 N (BU l a i x).1:=by
 intro d;induction d using PZ with
 | _ d ih =>
  intro i l a x hd hR hx;by_cases hs:∃ y,l[BE l i]? = some y/\lessI y x=true
  ·obtain⟨y,hy,hl⟩:=hs;have AH:=Ie l i;have hlen:=(B_.1 hy).1;rw[Fe hy hl];obtain⟨h1,h2,h3⟩:=ih ((l.set i y).length-BE l i) (by rw[C_];omega) (BE l i) (l.set i y) (a.set y.1.toNat (i:Int)) x rfl (hR.set i (hR y (zm hy))) hx;exact⟨by rw[h1,C_],by rw[h2,C_],h3⟩
  ·rw[El λ y hy hl=>hs ⟨y,hy,hl⟩];exact⟨by simp[Ei],by simp[Ei],hR.set i hx⟩
def I3 (l:List Itm) (a:List Int) (p i:Nat) (x:Itm):List Itm×List Int :=
 if (BU l.dropLast (a.set p (-1)) i x).2[x.1.toNat]? = some (i:Int) then Dl (BU l.dropLast (a.set p (-1)) i x).1 (BU l.dropLast (a.set p (-1)) i x).2 i x else BU l.dropLast (a.set p (-1)) i x
end Go.Proofs.YtepelooebggliaaGreatDoor.Hp
namespace Go.Proofs.YtepelooebggliaaGreatDoor.Hp
def Good (N:Nat) (l:List Itm) (a:List Int):Prop:=Ok N l a/\HO (λ _=>False) l
theorem Oo.good {N:Nat} {l:List Itm} {r:List Itm×List Int} (h:Oo N l r):Good N r.1 r.2:=⟨h.ok,h.ord⟩
theorem get_lt {l:List Itm} {i:Nat} {e:Itm} (h:l[i]? = some e):i<l.length:=(B_.1 h).1
theorem Ok.num {N:Nat} {l:List Itm} {a:List Int} (h:Ok N l a) {i:Nat} {e:Itm} (he:l[i]? = some e):∃ p:Nat,e.1=(p:Int)/\p<N/\a[p]? = some (i:Int):=by
 have hr:=h.rng e (zm he);refine⟨e.1.toNat,by omega,by omega,h.here i e he⟩
theorem aJ {N:Nat} {l:List Itm} {a:List Int} (h:Good N l a) (p:Nat) (key:Int) (hp:p<N) (Cx:∀ e∈l,e.1≠(p:Int)) :
  Oo N (l++[((p:Int),key)]) (Dl (l++[((p:Int),key)]) a l.length ((p:Int),key)):=by
 have hlen:l.length<(l++[((p:Int),key)]).length:=by simp
 have Np:(l++[((p:Int),key)]).set l.length ((p:Int),key)=l++[((p:Int),key)]:=by
  rw[Pc _ _ (zl _),Nat.sub_self];rfl
 have hg:∀ k e,(l++[((p:Int),key)])[k]? = some e->l[k]? = some e\/k=l.length/\e=((p:Int),key):=by
  intro k e hk;rcases PX k l.length with hl | hl
  ·rw[Pa hl]at hk;exact .inl hk
  ·rw[O_ hl]at hk;have h1:=get_lt hk;simp only[Pb,List.length_nil]at h1;obtain rfl:k=l.length:=(by omega);rw[Nat.sub_self]at hk;exact .inr ⟨rfl,(PH hk).symm⟩
 have key0:=K9 l.length N (l++[((p:Int),key)]) a ((p:Int),key) hlen
 rw[Np]at key0
 refine key0 ?_ ?_ ?_
 ·refine⟨?_,by rw[C_];exact h.1.len,?_,?_⟩
  ·intro e he;rcases List.mem_append.1 he with he | he
   ·exact h.1.rng e he
   ·obtain rfl:=N_.1 he;exact⟨by simp,by simp;omega⟩
  ·intro i e he;rcases hg i e he with he | ⟨rfl,rfl⟩
   ·have hr:=h.1.rng e (zm he);have Bm:=Cx e (zm he);rw[A_ (by simp;omega)];exact h.1.here i e he
   ·simp[h.1.len,hp]
  ·intro q hq hn;have h1:(p:Int)≠(q:Int):=hn ((p:Int),key) (by simp);rw[A_ (by simp;omega)];exact h.1.gone q hq λ e he=>hn e (List.mem_append_left _ he)
 ·intro k e f h0 hk he hf;rcases hg k e he with he | ⟨rfl,_⟩
  ·rcases hg _ f hf with hf | ⟨h1,_⟩
   ·exact h.2 k e f h0 (λ h=>h) he hf
   ·have:=get_lt he;omega
  ·exact absurd rfl hk
 ·intro k e f h0 Fj hk he hf;rcases hg k e he with he | ⟨h1,_⟩
  ·have:=get_lt he;omega
  ·omega
theorem NC {N:Nat} {l:List Itm} {a:List Int} (h:Good N l a) {p i:Nat} {key:Int} {e:Itm} (he:l[i]? = some e) (hp:e.1=(p:Int)) (hk:key<e.2) :
  Oo N (l.set i ((p:Int),key)) (Dl l a i ((p:Int),key)):=by
 have D5:=get_lt he
 have hr:=h.1.rng e (zm he)
 have js:=h.1.here i e he
 rw[hp]at js hr
 simp only[P5]at js
 have hpa:p<a.length:=(B_.1 js).1
 have zAJ:a.set p (i:Int)=a:=by
  apply List.ext_getElem?;intro j;rw[D_];split
  ·rename_i hj;subst hj;rw[js]
  ·rfl
 have zAF:lessI ((p:Int),key) e=true:=(lessI_iff _ _).2 (.inl hk)
 refine K9 i N l a ((p:Int),key) D5 ?_ ?_ ?_
 ·simp only[P5];rw[zAJ];refine⟨h.1.rng.set i hr,h.1.len,?_,?_⟩
  ·intro k f hf;rw[D_]at hf;split at hf
   ·rename_i DX;subst DX;obtain rfl:((p:Int),key)=f:=(by simpa [D5] using hf);simpa using js
   ·exact h.1.here k f hf
  ·intro q hq hn;refine h.1.gone q hq λ f hf=>?_;obtain⟨k,Lz⟩:=K_ hf;by_cases DX:k=i
   ·subst DX;rw[he]at Lz;obtain rfl:=PH Lz;rw[hp];exact hn ((p:Int),key) (zm (i:=k) (by simp[D5]))
   ·exact hn f (zm (i:=k) (by rw[A_ (by omega)];exact Lz))
 ·intro k f g h0 DX hf hg;rw[A_ (by omega)]at hf;by_cases hpi:(k-1)/2=i
  ·rw[hpi]at hg;obtain rfl:((p:Int),key)=g:=(by simpa [D5] using hg);exact gl (h.2 k f e h0 (λ h=>h) hf (by rw[hpi];exact he)) zAF
  ·rw[A_ (by omega)]at hg;exact h.2 k f g h0 (λ h=>h) hf hg
 ·intro k f g h0 Fj DX hf hg;rw[A_ (by omega)]at hf hg;exact DR (h.2 k f e Fj (λ h=>h) hf (by rw[DX];exact he)) (h.2 i e g h0 (λ h=>h) he hg)
theorem E0 {l:List Itm} {k:Nat} (h:k+1<l.length):l.dropLast[k]? = l[k]? := by
 rw[Po,List.getElem?_take,if_pos (by omega)]
theorem DB {l:List Itm} {k:Nat} {e:Itm} (h:l.dropLast[k]? = some e):l[k]? = some e/\k+1<l.length:=by
 have h1:=get_lt h;rw[Pq]at h1;exact⟨by rw[<- E0 (by omega)];exact h,by omega⟩
theorem LN {N:Nat} {l:List Itm} {a:List Int} (h:Good N l a) {p i:Nat} {e:Itm} (he:l[i]? = some e) (hp:e.1=(p:Int)) (hi:i+1=l.length) :
  Good N l.dropLast (a.set p (-1))/\l.dropLast.Perm (l.eraseIdx i):=by
 have hr:=h.1.rng e (zm he)
 rw[hp]at hr
 refine⟨⟨⟨λ f hf=>h.1.rng f ((Pp l).subset hf),by rw[C_];exact h.1.len,?_,?_⟩,?_⟩,?_⟩
 ·intro k f hf;obtain⟨h1,h2⟩:=DB hf;have Bm:f.1≠(p:Int):=λ hq=>by
   have:=h.1.at_inj h1 he (by rw[hq,hp]);omega
  have Kq:=h.1.rng f (zm h1);rw[A_ (by omega)];exact h.1.here k f h1
 ·intro q hq hn;by_cases hqp:q=p
  ·subst hqp;simp[h.1.len,hq]
  ·rw[A_ (by omega)];refine h.1.gone q hq λ f hf=>?_;obtain⟨k,hk⟩:=K_ hf;by_cases DX:k=i
   ·subst DX;rw[he]at hk;obtain rfl:=PH hk;rw[hp];omega
   ·have:=get_lt hk;exact hn f (zm (i:=k) (by rw[E0 (by omega)];exact hk))
 ·intro k f g h0 _ hf hg;exact h.2 k f g h0 (λ h=>h) (DB hf).1 (DB hg).1
 ·have:l.eraseIdx i=l.dropLast:=by
   rw[List.eraseIdx_eq_take_drop_succ,Po,show i=l.length-1 by omega,List.drop_eq_nil_of_le (by omega),List.append_nil]
  rw[this]
theorem Mh:∀ (l:List Itm) (i:Nat) (x:Itm),i+1<l.length->l[l.length-1]? = some x->(l.dropLast.set i x).Perm (l.eraseIdx i)
 | [],i,x,h,_=>by simp at h
 | [y],i,x,h,_=>by simp at h
 | y::z::l,0,x,_,hx=>by
  rw[Pm,J_,List.eraseIdx_cons_zero];have Bm:z::l≠[]:=(by simp);have CN:(z::l).getLast Bm=x:=by
   rw[List.getLast_eq_getElem];have h2:(y::z::l).length-1=((z::l).length-1)+1:=(by simp);rw[h2,E_]at hx;exact(B_.1 hx).2
  conv=>rhs;rw[<- List.dropLast_concat_getLast Bm,CN]
  exact(List.perm_append_singleton x _).symm
 | y::z::l,i+1,x,h,hx=>by
  rw[Pm,G_,List.eraseIdx_cons_succ];refine(Mh (z::l) i x (by simp at h ⊢;omega) ?_).cons y;have h2:(y::z::l).length-1=((z::l).length-1)+1:=(by simp);rw[h2,E_]at hx;exact hx
theorem OH {N:Nat} {l:List Itm} {a:List Int} (h:Good N l a) {p i:Nat} {e x:Itm} (he:l[i]? = some e) (hp:e.1=(p:Int)) (hi:i+1<l.length) (hx:l[l.length-1]? = some x) :
  Good N (I3 l a p i x).1 (I3 l a p i x).2/\(I3 l a p i x).1.Perm (l.eraseIdx i):=by
 have hr:=h.1.rng e (zm he)
 have LC:=h.1.rng x (zm hx)
 rw[hp]at hr
 have Iw:x.1≠(p:Int):=λ hq=>by
  have:=h.1.at_inj hx he (by rw[hq,hp]);omega
 have zH:x.1.toNat<a.length:=by rw[h.1.len];omega
 have D5:i<l.dropLast.length:=by rw[Pq];omega
 have hg:∀ k f,(l.dropLast.set i x)[k]? = some f->k=i/\f=x\/k≠i/\k+1<l.length/\l[k]? = some f:=by
  intro k f hf;by_cases DX:k=i
  ·subst DX;left;rw[D_,if_pos rfl,if_pos D5]at hf;exact⟨rfl,(PH hf).symm⟩
  ·rw[A_ (by omega)]at hf;obtain⟨h1,h2⟩:=DB hf;exact .inr ⟨DX,h2,h1⟩
 have Ba:Ok N (l.dropLast.set i x) ((a.set p (-1)).set x.1.toNat (i:Int)):=by
  refine⟨N4.set (λ f hf=>h.1.rng f ((Pp l).subset hf)) i LC,by simp[h.1.len],?_,?_⟩
  ·intro k f hf;rcases hg k f hf with ⟨rfl,rfl⟩ | ⟨h1,h2,h3⟩
   ·rw[D_,if_pos rfl,if_pos (by rw[C_];exact zH)]
   ·have hfr:=h.1.rng f (zm h3);have n1:f.1≠x.1:=λ hq=>by have:=h.1.at_inj h3 hx hq;omega
    have n2:f.1≠(p:Int):=λ hq=>h1 (h.1.at_inj h3 he (by rw[hq,hp]));rw[A_ (by omega),A_ (by omega)];exact h.1.here k f h3
  ·intro q hq hn;have n1:x.1≠(q:Int):=hn x (zm (i:=i) (by rw[D_,if_pos rfl,if_pos D5]));rw[A_ (by omega)];by_cases hqp:q=p
   ·subst hqp;simp[h.1.len,hq]
   ·rw[A_ (by omega)];refine h.1.gone q hq λ f hf=>?_;obtain⟨k,hk⟩:=K_ hf;by_cases DX:k=i
    ·subst DX;rw[he]at hk;obtain rfl:=PH hk;rw[hp];omega
    ·have Kn:=get_lt hk;by_cases hkL:k=l.length-1
     ·subst hkL;rw[hx]at hk;obtain rfl:=PH hk;exact n1
     ·exact hn f (zm (i:=k) (by rw[A_ (by omega),E0 (by omega)];exact hk))
 have ho:HO (λ k=>k=i\/0<k/\(k-1)/2=i) (l.dropLast.set i x):=by
  intro k f g h0 hk hf cB;rcases hg k f hf with ⟨h1,_⟩ | ⟨h1,h2,h3⟩
  ·exact absurd (.inl h1) hk
  ·rcases hg _ g cB with ⟨h4,_⟩ | ⟨h4,h5,h6⟩
   ·exact absurd (.inr ⟨h0,h4⟩) hk
   ·exact h.2 k f g h0 (λ h=>h) h3 h6
 have hu:HU (l.dropLast.set i x) i:=by
  intro k f g h0 Fj DX hf cB;rcases hg k f hf with ⟨h1,_⟩ | ⟨h1,h2,h3⟩
  ·omega
  ·rcases hg _ g cB with ⟨h4,_⟩ | ⟨h4,h5,h6⟩
   ·omega
   ·exact DR (h.2 k f e Fj (λ h=>h) h3 (by rw[DX];exact he)) (h.2 i e g h0 (λ h=>h) he h6)
 have GN:=Mh l i x hi hx
 unfold I3
 rcases qi D5 Ba ho hu with ⟨h1,h2⟩ | ⟨h1,k,hk,h2⟩
 ·rw[h1,if_pos (by show ((a.set p (-1)).set x.1.toNat (i:Int))[x.1.toNat]? = _;rw[D_,if_pos rfl,if_pos (by rw[C_];exact zH)])];have Od:(l.dropLast.set i x).set i x=l.dropLast.set i x:=(by rw[M_]);have haa:((a.set p (-1)).set x.1.toNat (i:Int)).set x.1.toNat (i:Int)=(a.set p (-1)).set x.1.toNat (i:Int):=(by rw[M_]);have r:=K9 i N (l.dropLast.set i x) ((a.set p (-1)).set x.1.toNat (i:Int)) x (by rw[C_];exact D5) (by rw[Od,haa];exact Ba) (by rw[Od];exact h2) (by rw[Od];exact hu);rw[Od]at r;exact⟨r.good,r.perm.trans GN⟩
 ·rw[if_neg (λ h=>by rw[h2]at h;simp only[PI]at h;omega)];exact⟨h1.good,h1.perm.trans GN⟩
theorem top_law {l:List Itm} (h:HO (λ _=>False) l) {e:Itm} (he:l[0]? = some e):∀ (k:Nat) (f:Itm),l[k]? = some f->¬ lessI f e=true:=by
 intro k;induction k using PZ with
 | _ k ih =>
  intro f hf;by_cases hk:k=0
  ·subst hk;rw[he]at hf;obtain rfl:=PH hf;exact FM _
  ·have Kn:=get_lt hf;obtain⟨g,hg⟩:=zx (l:=l) (i:=(k-1)/2) (by omega);exact DR (h k f g (by omega) (λ h=>h) hf hg) (ih ((k-1)/2) (by omega) g hg)
theorem Good.nil {N:Nat} {a:List Int} (hl:a.length=N) (h:∀ p:Nat,p<N->a[p]? = some (-1)):Good N [] a :=
 ⟨⟨λ e he=>by simp at he,hl,λ i e he=>by simp at he,λ p hp _=>h p hp⟩,λ k e f _ _ hk=>by simp at hk⟩
theorem Ew:∀ (n:Nat) (l:List Nat),l.Nodup->(∀ x∈l,x<n)->l.length<=n
 | 0,l,_,h=>by
  cases l with
  | nil=>simp
  | cons x l=>exact absurd (h x (by simp)) (by omega)
 | n+1,l,hd,h=>by
  by_cases hn:n∈l
  ·have h1:=Ew n (l.erase n) (hd.erase n) (λ x hx=>by
    have CN:=(hd.mem_erase_iff).1 hx;have:=h x CN.2;omega)
   rw[List.length_erase_of_mem hn]at h1;omega
  ·have:=Ew n l hd (λ x hx=>by
    have h1:=h x hx;have h2:x≠n:=λ e=>hn (e▸hx);omega)
   omega
theorem Ok.nums {N:Nat} {l:List Itm} {a:List Int} (h:Ok N l a):(l.map (λ e=>e.1.toNat)).Nodup:=by
 rw[List.nodup_iff_pairwise_ne,Pj];intro i j hi hj fR he;rw[Ph]at hi hj;rw[Pv,Pv]at he;have r1:=h.rng _ (Pw hi);have r2:=h.rng _ (Pw hj);have:=h.at_inj (zq hi) (zq hj) (by omega);omega
theorem Ok.few {N:Nat} {l:List Itm} {a:List Int} (h:Ok N l a):l.length<=N:=by
 have:=Ew N _ h.nums (λ x hx=>by
  obtain⟨e,he,rfl⟩:=Pg.1 hx;have:=h.rng e he;omega)
 rwa [Ph]at this
theorem Ok.fewer {N:Nat} {l:List Itm} {a:List Int} (h:Ok N l a) {p:Nat} (hp:p<N) (Cx:∀ e∈l,e.1≠(p:Int)):l.length<N:=by
 have:=Ew N (p::l.map (λ e=>e.1.toNat)) (List.nodup_cons.2 ⟨λ hx=>by
  obtain⟨e,he,h1⟩:=Pg.1 hx;have h2:=h.rng e he;exact Cx e he (by omega),h.nums⟩) (λ x hx=>by
  rcases List.mem_cons.1 hx with rfl | hx
  ·exact hp
  ·obtain⟨e,he,rfl⟩:=Pg.1 hx;have:=h.rng e he;omega)
 rw[Pb,Ph]at this;omega
end Go.Proofs.YtepelooebggliaaGreatDoor.Hp
namespace Go.Proofs.YtepelooebggliaaGreatDoor
open Go.RowKit
abbrev pt (D:Nat):Px:=.pointer (some ⟨D,0,none⟩)
abbrev u64 (x:Int):Px:=.int .u64 x
abbrev i64 (x:Int):Px:=.int .i64 x
abbrev AB:=Int×Int×Int
def BB (e:AB):List Px:=[i64 e.1,i64 e.2.1,u64 e.2.2]
def cellsOf (es:List AB):List Px:=es.flatMap BB
theorem Da (es:List AB):(cellsOf es).length=es.length*3:=by
 induction es with
 | nil=>rfl
 | cons e es ih=>simp only[cellsOf,I_,Ps,Pb]at ih ⊢;rw[ih];simp[BB];omega
theorem Ef (a b:List AB):cellsOf (a++b)=cellsOf a++cellsOf b:=Pr
theorem OB (e:AB):cellsOf [e]=BB e:=by simp[cellsOf]
def Bc (w:Py) (B:Nat) (v:Px) (es:List AB):Prop:=w.ownsRow B 65 3 v es.length (cellsOf es)
theorem IP:(P6.info? 65).map (λ i=>(i.zero,i.size,i.bytes))=some (some (.agg #[i64 0,i64 0,u64 0]),3,24):=by kernel_rfl
theorem KM {w:Py} {base n size:Nat} {e:Pz} {v:Px} {xs:List Px} (h:w.ownsRow base e size v n xs) (hn:0<n):∃ g c,v=.slice (some ⟨g,0,none⟩) n c:=by
 rcases h.2 with ⟨_,h0⟩ | ⟨g,cap,_,hv,_⟩
 ·omega
 ·exact⟨g,cap,hv⟩
theorem Az {w:Py} {b b' n size:Nat} {e:Pz} {v:Px} {xs:List Px} (h:w.ownsRow b e size v n xs) (hb:b'<=b):w.ownsRow b' e size v n xs:=by
 refine⟨h.1,?_⟩;rcases h.2 with hn | ⟨g,cap,cur,hv,hg,r⟩
 ·exact .inl hn
 ·exact .inr ⟨g,cap,cur,hv,by omega,r⟩
theorem Ap {w:Py} {base n size:Nat} {e:Pz} {v:Px} {xs:List Px} (h:w.ownsRow base e size v n xs):∃ A c,v=.slice A n c:=by
 rcases h.2 with ⟨rfl,rfl⟩ | ⟨g,cap,_,hv,_⟩
 ·exact⟨none,0,rfl⟩
 ·exact⟨_,cap,hv⟩
theorem Ao {w:Py} {base n size:Nat} {e:Pz} {v:Px} {xs:List Px} (h:w.ownsRow base e size v n xs) {k:Nat} (hk:v.ownBlock=some k):base<=k/\∃ cur,w.heap[k]? = some (.cells cur e (0,0)):=by
 rcases h.2 with ⟨rfl,_⟩ | ⟨g,cap,cur,rfl,hb,hg,_⟩
 ·cases hk
 ·obtain rfl:g=k:=PH hk;exact⟨hb,cur,hg⟩
theorem Dt {w:Py} {b1 n1 s1 b2 n2 s2:Nat} {e1 e2:Pz} {v1 v2:Px} {xs1 xs2:List Px} (h1:w.ownsRow b1 e1 s1 v1 n1 xs1) (h2:w.ownsRow b2 e2 s2 v2 n2 xs2) (Bm:e1≠e2) {j:Nat} (k1:v1.ownBlock=some j):¬ v2.ownBlock=some j:=λ k2=>by
 obtain⟨_,c1,g1⟩:=Ao h1 k1;obtain⟨_,c2,g2⟩:=Ao h2 k2;rw[g1]at g2;cases g2;exact Bm rfl
theorem Ay {w:Py} {a b:Nat} {t u:Pz} {cs ds:Array Px} (h:Am w a t cs) (k:Am w b u ds) (Bm:t≠u):a≠b:=λ e=>by
 subst e;have:=(show w.heap[a]? = _ from h).symm.trans (show w.heap[a]? = _ from k);cases this;exact Bm rfl
theorem get_lt {α:Type} {l:List α} {i:Nat} {x:α} (h:l[i]? = some x):i<l.length:=(B_.1 h).1
def Bj (w:Py) (A:Option PE) (es:List AB):Prop :=
 ∀ (i:Nat) (e:AB),es[i]? = some e->∃ b off,A=some ⟨b,off,none⟩/\b<w.heap.size/\w.cell? ⟨b,off+i*3,none⟩=some (i64 e.1)/\w.cell? ⟨b,off+i*3+1,none⟩=some (i64 e.2.1)/\w.cell? ⟨b,off+i*3+2,none⟩=some (u64 e.2.2)
theorem Bj.kept {F:Nat->Prop} {w w':Py} {A:Option PE} {es:List AB} (h:Bj w A es) (hK:Kept F w w') (hF:∀ a,A=some a->¬ F a.block):Bj w' A es:=by
 intro i e he;obtain⟨b,off,hA,hb,h0,h1,h2⟩:=h i e he;have hn:=hF _ hA;exact⟨b,off,hA,PW hb hK.size,hK.cell h0 hn,hK.cell h1 hn,hK.cell h2 hn⟩
theorem Bj.grew {w w':Py} {A:Option PE} {es:List AB} (h:Bj w A es) (hK:Ac w w'):Bj w' A es:=h.kept hK λ _ _ h=>h
theorem Bj.nil (w:Py) (A:Option PE):Bj w A []:=by intro i e he;simp at he
theorem C0:∀ (es:List AB) (i j:Nat) (e:AB),es[i]? = some e->j<3->(cellsOf es)[i*3+j]? = (BB e)[j]?
 | [],i,j,e,h,_=>by simp at h
 | x::es,0,j,e,h,hj=>by
  simp only[H_,PI]at h;subst h;rw[cellsOf,I_,Nat.zero_mul,PY,Pa (by simp[BB];omega)]
 | x::es,i+1,j,e,h,hj=>by
  rw[E_]at h;have ih:=C0 es i j e h hj;have e3:(BB x).length=3:=rfl;rw[cellsOf,I_,O_ (by omega),e3,show (i+1)*3+j-3=i*3+j by omega];exact ih
theorem Bc.row {w:Py} {B:Nat} {v:Px} {es:List AB} (h:Bc w B v es):∃ A c,v=.slice A es.length c/\Bj w A es:=by
 rcases Nat.eq_zero_or_pos es.length with h0 | h0
 ·obtain⟨A,c,hv⟩:=Ap h;refine⟨A,c,hv,?_⟩;rw[List.length_eq_zero_iff.1 h0];exact Bj.nil _ _
 ·obtain⟨g,c,rfl⟩:=KM h h0;refine⟨_,c,rfl,λ i e he=>?_⟩;have hi:i<es.length:=by
   rcases PX i es.length with hl | hl
   ·exact hl
   ·rw[List.getElem?_eq_none hl]at he;cases he
  have hc:∀ j,j<3->w.cell? ⟨g,i*3+j,none⟩=(BB e)[j]? := λ j hj=>by
   rw[<- C0 es i j e he hj];exact World.ownsRow.cellAt h (i*3+j) (by omega)
  refine⟨g,0,rfl,(h.lt g rfl).2,?_,?_,?_⟩
  ·rw[PY];exact hc 0 (by omega)
  ·rw[PY];exact hc 1 (by omega)
  ·rw[PY];exact hc 2 (by omega)
variable {P:PD} {ops:Array PB} {Q:Exit->PF->Py->Prop} {md:PS} {E:List Nat} {F:Nat->Prop}
theorem AP (i d j d2:Nat) {oi oj:PB} {fuel:Nat} {listed:Array Bool} {T:Array Px} {D:List PA} {w:Py} (hi:ops[i]? = some oi) (hj:ops[j]? = some oj)
  (hr:PQ md ops listed=[i,j]) (hd:(ops[i]?).bind (·.dst)=some d) (vL:(ops[j]?).bind (·.dst)=some d2) (hw:PO oi (yielded ops T)=true) (BM:PO oj (yielded ops T)=true)
  (h:∀ K:PF->Py->Prop,(∀ (v:Px) (w':Py),(i∉E->Kept F w w')->AK P md ops E F Q fuel (listed.setIfInBounds i true) ⟨T.setIfInBounds d v,D⟩ w'->K (Ql ⟨T,D⟩ (some d) v) w')->({ oi with dst:=some d }).wp P ⟨T,D⟩ w K Q)
  (h2:∀ K:PF->Py->Prop,(∀ (v:Px) (w':Py),(j∉E->Kept F w w')->AK P md ops E F Q fuel (listed.setIfInBounds j true) ⟨T.setIfInBounds d2 v,D⟩ w'->K (Ql ⟨T,D⟩ (some d2) v) w')->({ oj with dst:=some d2 }).wp P ⟨T,D⟩ w K Q):AK P md ops E F Q (fuel+1) listed ⟨T,D⟩ w:=by
 refine⟨λ h0=>(by rw[hr]at h0;cases h0),λ k hk=>?_⟩
 rw[hr]at hk
 rcases List.mem_cons.1 hk with rfl | hk
 ·skip;unfold wpOp;simp only[hi,hw,if_true];have e:({ oi with dst:=some d }:PB)=oi:=(by rw[<- FG hi hd]);rw[<- e];refine .inl (Qi ?_ (h (λ a' w'=>∃ v,a'=Ql ⟨T,D⟩ (some d) v/\(k∉E->Kept F w w')/\AK P md ops E F Q fuel (listed.setIfInBounds k true) ⟨T.setIfInBounds d v,D⟩ w') λ v w' h1 h2=>⟨v,rfl,h1,h2⟩));rintro a' w' ⟨v,rfl,h1,h2⟩;exact⟨h1,h2⟩
 ·obtain rfl:=N_.1 hk;unfold wpOp;simp only[hj,BM,if_true];have e:({ oj with dst:=some d2 }:PB)=oj:=(by rw[<- FG hj vL]);rw[<- e];refine .inl (Qi ?_ (h2 (λ a' w'=>∃ v,a'=Ql ⟨T,D⟩ (some d2) v/\(k∉E->Kept F w w')/\AK P md ops E F Q fuel (listed.setIfInBounds k true) ⟨T.setIfInBounds d2 v,D⟩ w') λ v w' h1 h2=>⟨v,rfl,h1,h2⟩));rintro a' w' ⟨v,rfl,h1,h2⟩;exact⟨h1,h2⟩
end Go.Proofs.YtepelooebggliaaGreatDoor
namespace Go.Proofs.YtepelooebggliaaGreatDoor
open Go.RowKit
def AU (n:Int) (e:AB):Bool:=decide (0<=e.1/\e.1<n)&&(decide (0<=e.2.1/\e.2.1<n)&&!decide (e.1=e.2.1))
def G9 (e:AB):Bool:=decide (1<=e.2.2/\e.2.2<=4294967296)
def Aq (n:Int) (es:List AB):Int:=if n<1\/4096<n then 2 else if 16384<es.length then 5 else if es.all (AU n)=true then (if es.all G9=true then 0 else 2) else 7
theorem Hi {es:List AB} {p:AB->Bool} {k:Nat} {e:AB} (h:(es.take k).all p=true) (he:es[k]? = some e) (hp:p e=true):(es.take (k+1)).all p=true:=by
 rw[List.take_add_one,List.all_append,h,he];simp[hp]
theorem FB {es:List AB} {p:AB->Bool} {k:Nat} {e:AB} (he:es[k]? = some e) (hp:p e=false):es.all p=false:=by
 rw[List.all_eq_false];exact⟨e,zm he,by simp[hp]⟩
theorem CA (n:Int) (A:Option PE) (L c:Nat) (v:Int) (w:Py):PG P6 24 #[.agg #[i64 n,.slice A L c],i64 v] w λ e w'=>e=.returned (.bool (decide (0<=v/\v<n)))/\Ac w w':=by
 have hk:Ac w (w.alloc (.cells #[i64 n,.slice A L c] 24)):=(zr _ _).alloc _;rcases P4 v 0 with h1 | h1
 ·have hr:decide (0<=v/\v<n)=false:=zf (by omega);rw[hr];clear hr;have h2:¬ 0<=v:=(by omega);go_enter Qc,Qa;go_wp2_with fail;go_ret;exact⟨rfl,hk⟩
 ·rcases P4 v n with h2 | h2
  ·have hr:decide (0<=v/\v<n)=true:=zt (by omega);rw[hr];clear hr;go_enter Qc,Qa;go_wp2_with fail;go_ret;exact⟨rfl,hk⟩
  ·have hr:decide (0<=v/\v<n)=false:=zf (by omega);rw[hr];clear hr;have h3:¬ v<n:=(by omega);go_enter Qc,Qa;go_wp2_with fail;go_ret;exact⟨by simp,hk⟩
theorem DG (v:Int) (w:Py):PG P6 25 #[u64 v] w λ e w'=>e=.returned (.bool (decide (1<=v/\v<=4294967296)))/\w=w':=by
 rcases P4 v 1 with h1 | h1
 ·have hr:decide (1<=v/\v<=4294967296)=false:=zf (by omega);rw[hr];clear hr;have h2:¬ 1<=v:=(by omega);go_enter Qd,Qb;go_wp2_with fail;go_ret;exact⟨rfl,rfl⟩
 ·rcases P4 4294967296 v with h2 | h2
  ·have hr:decide (1<=v/\v<=4294967296)=false:=zf (by omega);rw[hr];clear hr;have h3:¬ v<=4294967296:=(by omega);go_enter Qd,Qb;go_wp2_with fail;go_ret;exact⟨by simp,rfl⟩
  ·have hr:decide (1<=v/\v<=4294967296)=true:=zt (by omega);rw[hr];clear hr;go_enter Qd,Qb;go_wp2_with fail;go_ret;exact⟨rfl,rfl⟩
theorem Dg (n:Int) (A:Option PE) (c:Nat) (es:List AB) (w:Py) (h:Bj w A es) (hl:es.length<=100000) :
  PG P6 6 #[.agg #[i64 n,.slice A es.length c]] w λ e w'=>e=.returned (i64 (Aq n es))/\Ac w w':=by
 obtain⟨L,hL⟩:=zn (es.length)
 have HL:=zh hL
 rw[hL]at hl
 rw[hL]
 clear hL
 have b0:=zv w 24 #[i64 n,.slice A L c]
 have BY:Ac w (w.alloc (.cells #[i64 n,.slice A L c] 24)):=(zr _ _).alloc _
 have hE:=zh (h.grew BY)
 clear h
 obtain⟨cx,GI⟩:=CE b0
 rcases P4 n 1 with h1 | h1
 ·have hr:Hid (Aq n es=2):=if_pos (.inl h1);go_enter P_,P9;go_wp2_with fail;go_ret;rw[hr.out];exact⟨rfl,BY⟩
 rcases P4 4096 n with h2 | h2
 ·have hr:Hid (Aq n es=2):=if_pos (.inr h2);go_enter P_,P9;go_wp2_with fail;go_ret;rw[hr.out];exact⟨rfl,BY⟩
 have IL:Hid (Aq n es=if 16384<es.length then 5 else if es.all (AU n)=true then (if es.all G9=true then 0 else 2) else 7):=if_neg (by omega)
 rcases PX 16384 L with h3 | h3
 ·have hr:Hid (Aq n es=5):=IL.out.trans (if_pos (by rw[HL.out];exact h3));go_enter P_,P9;go_wp2_with fail;go_ret;rw[hr.out];exact⟨rfl,BY⟩
 have CR:Hid (Aq n es=if es.all (AU n)=true then (if es.all G9=true then 0 else 2) else 7):=IL.out.trans (if_neg (by rw[HL.out];omega))
 clear IL
 go_enter P_,P9
 go_wp2_with fail
 go_loopw [3] (λ i wr=>∃ (k:Nat),k<=L/\i=.int .i64 k/\Hid ((es.take k).all (AU n)=true)/\Am wr w.heap.size 24 #[i64 n,.slice A L c]/\Hid (Bj wr A es)/\Ac w wr) (λ i _=>L-(intOf i).toNat)
 case atStart=>exact⟨0,by omega,rfl,rfl,b0,hE,BY⟩
 case round =>
  clear b0 hE BY cx GI;obtain⟨k,hk,rfl,hS,b0,hE,hK⟩:=hrel;obtain⟨cx,GI⟩:=CE b0;by_cases AH:k<L
  ·obtain⟨x,hx⟩:=zx (l:=es) (i:=k) (by rw[HL.out];exact AH);obtain⟨b,off,Nb,hb,jb,sU,e02⟩:=hE.out k x hx;have HX:=zh hx;clear hx;subst Nb;obtain⟨p,q,r⟩:=x;have Fj:(0:Int)<=(k:Int):=(by omega);have Ly:(k:Int)<(L:Int):=(by omega);replace b0:=b0.drew;replace jb:wr.drew.cell? ⟨b,off+k*3,none⟩=some (i64 p):=jb;replace sU:wr.drew.cell? ⟨b,off+k*3+1,none⟩=some (i64 q):=sU;by_cases hp:0<=p/\p<n
   ·have dR:decide (0<=p/\p<n)=true:=zt hp;by_cases hq:0<=q/\q<n
    ·have jG:decide (0<=q/\q<n)=true:=zt hq;by_cases Gh:p=q
     ·have hr:Hid (Aq n es=7):=by
       show Aq n es=7;rw[CR.out,FB HX.out (show AU n (p,q,r)=false by simp[AU,Gh])];rfl
      have hbq:(p==q)=true:=(by simpa using Gh);clear hp hq Gh;go_wp2_with fail;refine rG [] (λ _=>False) ?_;refine tG 0 24 (y:=λ w' Ah=>by have AM:=(b0.grew Ah).cell 0;have AX:=(b0.grew Ah).cell 1;simp at AM AX;go_simp<;>with_reducible rfl) (h:=?_);refine pG 1 25 ?_;refine tG 2 26 (y:=λ w' Ah=>by have AM:=(b0.grew Ah).cell 0;have AX:=(b0.grew Ah).cell 1;simp at AM AX;go_simp<;>with_reducible rfl) (h:=?_);refine pG 3 27 ?_;refine pG 4 28 ?_;refine pG 5 29 ?_;refine tG 6 30 (y:=λ w' Ah=>by have hx:=ze Ah jb;go_simp<;>with_reducible rfl) (h:=?_);refine sG 7 31 (λ K Aj=>?_);go_simp;refine(CA n (some ⟨b,off,none⟩) L c p wr.drew).mono ?_;rintro e w1 ⟨rfl,k1⟩;rw[dR];have b1:=b0.grew k1;have vy:=ze k1 jb;have sV:=ze k1 sU;refine Aj _ _ (λ _=>k1) ?_;clear Aj;simp only[sA];refine pG 8 32 ?_;refine pG 9 33 ?_;refine tG 10 34 (y:=λ w' Ah=>by have AM:=(b1.grew Ah).cell 0;have AX:=(b1.grew Ah).cell 1;simp at AM AX;go_simp<;>with_reducible rfl) (h:=?_);refine pG 11 35 ?_;refine tG 12 36 (y:=λ w' Ah=>by have AM:=(b1.grew Ah).cell 0;have AX:=(b1.grew Ah).cell 1;simp at AM AX;go_simp<;>with_reducible rfl) (h:=?_);refine pG 13 37 ?_;refine pG 14 38 ?_;refine pG 15 39 ?_;refine tG 16 40 (y:=λ w' Ah=>by have hx:=ze Ah sV;go_simp<;>with_reducible rfl) (h:=?_);refine sG 17 41 (λ K Aj=>?_);go_simp;refine(CA n (some ⟨b,off,none⟩) L c q w1).mono ?_;rintro e w2 ⟨rfl,k2⟩;rw[jG];have b2:=b1.grew k2;have e20:=ze k2 vy;have e21:=ze k2 sV;refine Aj _ _ (λ _=>k2) ?_;clear Aj;simp only[sA];refine pG 18 42 ?_;refine pG 19 43 ?_;refine pG 20 44 ?_;refine pG 21 45 ?_;refine tG 22 46 (y:=λ w' Ah=>by have AM:=(b2.grew Ah).cell 0;have AX:=(b2.grew Ah).cell 1;simp at AM AX;go_simp<;>with_reducible rfl) (h:=?_);refine pG 23 47 ?_;refine pG 24 48 ?_;refine pG 25 49 ?_;refine tG 26 50 (y:=λ w' Ah=>by have hx:=ze Ah e20;go_simp<;>with_reducible rfl) (h:=?_);refine pG 27 51 ?_;refine tG 28 52 (y:=λ w' Ah=>by have AM:=(b2.grew Ah).cell 0;have AX:=(b2.grew Ah).cell 1;simp at AM AX;go_simp<;>with_reducible rfl) (h:=?_);refine pG 29 53 ?_;refine pG 30 54 ?_;refine pG 31 55 ?_;refine tG 32 56 (y:=λ w' Ah=>by have hx:=ze Ah e21;go_simp<;>with_reducible rfl) (h:=?_);refine pG 33 57 ?_;refine pG 34 58 ?_;refine dG ?_;go_wp2_with fail;go_ret;rw[hr.out];exact⟨rfl,hK.trans (Kept.trans (zr _ _).drew (k1.trans k2))⟩
     ·have Ci:Hid ((es.take (k+1)).all (AU n)=true):=Hi hS.out HX.out (show AU n (p,q,r)=true by simp[AU,dR,jG,Gh]);have hbq:(p==q)=false:=(by simpa using Gh);clear hp hq Gh;go_wp2_with fail;refine rG [] (λ _=>False) ?_;refine tG 0 24 (y:=λ w' Ah=>by have AM:=(b0.grew Ah).cell 0;have AX:=(b0.grew Ah).cell 1;simp at AM AX;go_simp<;>with_reducible rfl) (h:=?_);refine pG 1 25 ?_;refine tG 2 26 (y:=λ w' Ah=>by have AM:=(b0.grew Ah).cell 0;have AX:=(b0.grew Ah).cell 1;simp at AM AX;go_simp<;>with_reducible rfl) (h:=?_);refine pG 3 27 ?_;refine pG 4 28 ?_;refine pG 5 29 ?_;refine tG 6 30 (y:=λ w' Ah=>by have hx:=ze Ah jb;go_simp<;>with_reducible rfl) (h:=?_);refine sG 7 31 (λ K Aj=>?_);go_simp;refine(CA n (some ⟨b,off,none⟩) L c p wr.drew).mono ?_;rintro e w1 ⟨rfl,k1⟩;rw[dR];have b1:=b0.grew k1;have vy:=ze k1 jb;have sV:=ze k1 sU;refine Aj _ _ (λ _=>k1) ?_;clear Aj;simp only[sA];refine pG 8 32 ?_;refine pG 9 33 ?_;refine tG 10 34 (y:=λ w' Ah=>by have AM:=(b1.grew Ah).cell 0;have AX:=(b1.grew Ah).cell 1;simp at AM AX;go_simp<;>with_reducible rfl) (h:=?_);refine pG 11 35 ?_;refine tG 12 36 (y:=λ w' Ah=>by have AM:=(b1.grew Ah).cell 0;have AX:=(b1.grew Ah).cell 1;simp at AM AX;go_simp<;>with_reducible rfl) (h:=?_);refine pG 13 37 ?_;refine pG 14 38 ?_;refine pG 15 39 ?_;refine tG 16 40 (y:=λ w' Ah=>by have hx:=ze Ah sV;go_simp<;>with_reducible rfl) (h:=?_);refine sG 17 41 (λ K Aj=>?_);go_simp;refine(CA n (some ⟨b,off,none⟩) L c q w1).mono ?_;rintro e w2 ⟨rfl,k2⟩;rw[jG];have b2:=b1.grew k2;have e20:=ze k2 vy;have e21:=ze k2 sV;refine Aj _ _ (λ _=>k2) ?_;clear Aj;simp only[sA];refine pG 18 42 ?_;refine pG 19 43 ?_;refine pG 20 44 ?_;refine pG 21 45 ?_;refine tG 22 46 (y:=λ w' Ah=>by have AM:=(b2.grew Ah).cell 0;have AX:=(b2.grew Ah).cell 1;simp at AM AX;go_simp<;>with_reducible rfl) (h:=?_);refine pG 23 47 ?_;refine pG 24 48 ?_;refine pG 25 49 ?_;refine tG 26 50 (y:=λ w' Ah=>by have hx:=ze Ah e20;go_simp<;>with_reducible rfl) (h:=?_);refine pG 27 51 ?_;refine tG 28 52 (y:=λ w' Ah=>by have AM:=(b2.grew Ah).cell 0;have AX:=(b2.grew Ah).cell 1;simp at AM AX;go_simp<;>with_reducible rfl) (h:=?_);refine pG 29 53 ?_;refine pG 30 54 ?_;refine pG 31 55 ?_;refine tG 32 56 (y:=λ w' Ah=>by have hx:=ze Ah e21;go_simp<;>with_reducible rfl) (h:=?_);refine pG 33 57 ?_;refine pG 34 58 ?_;refine dG ?_;go_wp2_with fail;go_roundw
      case rel=>exact⟨k+1,by omega,by go_num,Ci,b2,zh (hE.out.grew (Kept.trans (zr _ _).drew (k1.trans k2))),hK.trans (Kept.trans (zr _ _).drew (k1.trans k2))⟩
      case measure=>simp[intOf];omega
    ·have jG:decide (0<=q/\q<n)=false:=zf hq;have hr:Hid (Aq n es=7):=by
      show Aq n es=7
      rw[CR.out,FB HX.out (show AU n (p,q,r)=false by simp[AU,jG])]
      rfl
     clear hp hq;go_wp2_with fail;refine rG [] (λ _=>False) ?_;refine tG 0 24 (y:=λ w' Ah=>by have AM:=(b0.grew Ah).cell 0;have AX:=(b0.grew Ah).cell 1;simp at AM AX;go_simp<;>with_reducible rfl) (h:=?_);refine pG 1 25 ?_;refine tG 2 26 (y:=λ w' Ah=>by have AM:=(b0.grew Ah).cell 0;have AX:=(b0.grew Ah).cell 1;simp at AM AX;go_simp<;>with_reducible rfl) (h:=?_);refine pG 3 27 ?_;refine pG 4 28 ?_;refine pG 5 29 ?_;refine tG 6 30 (y:=λ w' Ah=>by have hx:=ze Ah jb;go_simp<;>with_reducible rfl) (h:=?_);refine sG 7 31 (λ K Aj=>?_);go_simp;refine(CA n (some ⟨b,off,none⟩) L c p wr.drew).mono ?_;rintro e w1 ⟨rfl,k1⟩;rw[dR];have b1:=b0.grew k1;have vy:=ze k1 jb;have sV:=ze k1 sU;refine Aj _ _ (λ _=>k1) ?_;clear Aj;simp only[sA];refine pG 8 32 ?_;refine pG 9 33 ?_;refine tG 10 34 (y:=λ w' Ah=>by have AM:=(b1.grew Ah).cell 0;have AX:=(b1.grew Ah).cell 1;simp at AM AX;go_simp<;>with_reducible rfl) (h:=?_);refine pG 11 35 ?_;refine tG 12 36 (y:=λ w' Ah=>by have AM:=(b1.grew Ah).cell 0;have AX:=(b1.grew Ah).cell 1;simp at AM AX;go_simp<;>with_reducible rfl) (h:=?_);refine pG 13 37 ?_;refine pG 14 38 ?_;refine pG 15 39 ?_;refine tG 16 40 (y:=λ w' Ah=>by have hx:=ze Ah sV;go_simp<;>with_reducible rfl) (h:=?_);refine sG 17 41 (λ K Aj=>?_);go_simp;refine(CA n (some ⟨b,off,none⟩) L c q w1).mono ?_;rintro e w2 ⟨rfl,k2⟩;rw[jG];have b2:=b1.grew k2;have e20:=ze k2 vy;have e21:=ze k2 sV;refine Aj _ _ (λ _=>k2) ?_;clear Aj;simp only[sA];refine pG 18 42 ?_;refine pG 19 43 ?_;refine pG 20 44 ?_;refine qG 21 45 ?_;refine qG 22 46 ?_;refine qG 23 47 ?_;refine qG 24 48 ?_;refine qG 25 49 ?_;refine qG 26 50 ?_;refine qG 27 51 ?_;refine qG 28 52 ?_;refine qG 29 53 ?_;refine qG 30 54 ?_;refine qG 31 55 ?_;refine qG 32 56 ?_;refine qG 33 57 ?_;refine pG 34 58 ?_;refine dG ?_;go_wp2_with fail;go_ret;rw[hr.out];exact⟨rfl,hK.trans (Kept.trans (zr _ _).drew (k1.trans k2))⟩
   ·have dR:decide (0<=p/\p<n)=false:=zf hp;have hr:Hid (Aq n es=7):=by
     show Aq n es=7
     rw[CR.out,FB HX.out (show AU n (p,q,r)=false by simp[AU,dR])]
     rfl
    clear hp;go_wp2_with fail;refine rG [] (λ _=>False) ?_;refine tG 0 24 (y:=λ w' Ah=>by have AM:=(b0.grew Ah).cell 0;have AX:=(b0.grew Ah).cell 1;simp at AM AX;go_simp<;>with_reducible rfl) (h:=?_);refine pG 1 25 ?_;refine tG 2 26 (y:=λ w' Ah=>by have AM:=(b0.grew Ah).cell 0;have AX:=(b0.grew Ah).cell 1;simp at AM AX;go_simp<;>with_reducible rfl) (h:=?_);refine pG 3 27 ?_;refine pG 4 28 ?_;refine pG 5 29 ?_;refine tG 6 30 (y:=λ w' Ah=>by have hx:=ze Ah jb;go_simp<;>with_reducible rfl) (h:=?_);refine sG 7 31 (λ K Aj=>?_);go_simp;refine(CA n (some ⟨b,off,none⟩) L c p wr.drew).mono ?_;rintro e w1 ⟨rfl,k1⟩;rw[dR];have b1:=b0.grew k1;have vy:=ze k1 jb;have sV:=ze k1 sU;refine Aj _ _ (λ _=>k1) ?_;clear Aj;simp only[sA];refine pG 8 32 ?_;refine pG 9 33 ?_;refine qG 10 34 ?_;refine qG 11 35 ?_;refine qG 12 36 ?_;refine qG 13 37 ?_;refine qG 14 38 ?_;refine qG 15 39 ?_;refine qG 16 40 ?_;refine qG 17 41 ?_;refine qG 18 42 ?_;refine pG 19 43 ?_;refine pG 20 44 ?_;refine qG 21 45 ?_;refine qG 22 46 ?_;refine qG 23 47 ?_;refine qG 24 48 ?_;refine qG 25 49 ?_;refine qG 26 50 ?_;refine qG 27 51 ?_;refine qG 28 52 ?_;refine qG 29 53 ?_;refine qG 30 54 ?_;refine qG 31 55 ?_;refine qG 32 56 ?_;refine qG 33 57 ?_;refine pG 34 58 ?_;refine dG ?_;go_wp2_with fail;go_ret;rw[hr.out];exact⟨rfl,hK.trans (Kept.trans (zr _ _).drew k1)⟩
  ·obtain rfl:k=L:=(by omega);have F9:Hid (Aq n es=if es.all G9=true then 0 else 2):=by
    have h:=hS.out
    rw[Pn (by rw[HL.out];exact zl _)]at h
    exact CR.out.trans (if_pos h)
   go_wp2_with fail;go_loopw [4] (λ i wz=>∃ (j:Nat),j<=k/\i=.int .i64 j/\Hid ((es.take j).all G9=true)/\Am wz w.heap.size 24 #[i64 n,.slice A k c]/\Hid (Bj wz A es)/\Ac w wz) (λ i _=>k-(intOf i).toNat)
   case atStart=>exact⟨0,by omega,rfl,rfl,b0,hE,hK⟩
   case round =>
    clear b0 hE hK cx GI hS;rename_i wz _ _;obtain⟨j,hj,rfl,hS,b0,hE,hK⟩:=hrel;obtain⟨cx,GI⟩:=CE b0;by_cases AH:j<k
    ·obtain⟨x,hx⟩:=zx (l:=es) (i:=j) (by rw[HL.out];exact AH);obtain⟨b,off,Nb,hb,jb,sU,e02⟩:=hE.out j x hx;have HX:=zh hx;clear hx;subst Nb;obtain⟨p,q,r⟩:=x;by_cases hp:1<=r/\r<=4294967296
     ·have hW:=zh (λ W=>DG r W);rw[zt hp]at hW;have Ci:Hid ((es.take (j+1)).all G9=true):=Hi hS.out HX.out (zt hp);clear hp;go_wp2_with fail;refine(hW.out _).mono ?_;rintro e w1 ⟨rfl,rfl⟩;go_wp2_with fail;go_roundw
      case rel=>exact⟨j+1,by omega,by go_num,Ci,b0,hE,hK⟩
      case measure=>simp[intOf];omega
     ·have hW:=zh (λ W=>DG r W);rw[zf hp]at hW;have hr:Hid (Aq n es=2):=by
       show Aq n es=2
       rw[F9.out,FB HX.out (show G9 (p,q,r)=false from zf hp)]
       rfl
      clear hp;go_wp2_with fail;refine(hW.out _).mono ?_;rintro e w1 ⟨rfl,rfl⟩;go_wp2_with fail;go_ret;rw[hr.out];exact⟨rfl,hK⟩
    ·obtain rfl:j=k:=(by omega);have hr:Hid (Aq n es=0):=by
      have h:=hS.out
      rw[Pn (by rw[HL.out];exact zl _)]at h
      exact F9.out.trans (if_pos h)
     go_wp2_with fail;go_ret;rw[hr.out];exact⟨rfl,hK⟩
end Go.Proofs.YtepelooebggliaaGreatDoor
namespace Go.Proofs.YtepelooebggliaaGreatDoor
open Go.RowKit Go.Maps
open Go.ChangeMaps (setBlock heap_setBlock_same)
open Go.MapKept (heap_set)
section
variable {P:PD} {k:Pz}
structure Ents (P:PD) (k:Pz) (es:Array PC) (clock:Nat) (f:Px->Option Px):Prop where
 keys:∀ e∈es.toList,∃ l,keyOf P k e.key=some l
 has:∀ e∈es.toList,f e.key=some e.val
 all:∀ x v,f x=some v->∃ e∈es.toList,e.key=x
 apart:es.toList.Pairwise λ a b=>a.key≠b.key
 old:∀ e∈es.toList,e.born<clock
 born:(es.toList.map (·.born)).Nodup
def Ed (P:PD) (k:Pz) (w:Py) (M n:Nat) (f:Px->Option Px):Prop:=∃ es clock,w.heap[M]? = some (.map es clock)/\es.size<=n/\Ents P k es clock f
open Classical in
noncomputable def rj (f:Px->Option Px) (x v:Px):Px->Option Px:=λ y=>if y=x then some v else f y
theorem IZ (f:Px->Option Px) (x v:Px):rj f x v x=some v:=by simp[rj]
theorem Dv (f:Px->Option Px) {x y v:Px} (h:y≠x):rj f x v y=f y:=by simp[rj,h]
variable {w w':Py} {M n:Nat} {f:Px->Option Px}
theorem Ed.kept {F:Nat->Prop} (h:Ed P k w M n f) (hk:Kept F w w') (hf:¬ F M):Ed P k w' M n f:=by
 obtain⟨es,clock,hb,rest⟩:=h;exact⟨es,clock,(hk.block M (PJ.1 hb).1 hf).trans hb,rest⟩
theorem Ed.grew (h:Ed P k w M n f) (hk:Ac w w'):Ed P k w' M n f:=h.kept hk λ h=>h
theorem Ed.lt (h:Ed P k w M n f):M<w.heap.size:=by
 obtain⟨es,clock,hb,_⟩:=h;exact(PJ.1 hb).1
theorem Ed.mono {m:Nat} (h:Ed P k w M n f) (hm:n<=m):Ed P k w M m f:=by
 obtain⟨es,clock,hb,hs,rest⟩:=h;exact⟨es,clock,hb,by omega,rest⟩
theorem Ed.new (w:Py):Ed P k (w.alloc (.map #[] 0)) w.heap.size 0 (λ _=>none) :=
 ⟨#[],0,heap_alloc_new w _,by simp,⟨by simp,by simp,by simp,by simp,by simp,by simp⟩⟩
theorem Ed.noBlk {t:Pz} {cs:Array Px} {g:Nat} (h:Ed P k w M n f) (hb:Am w g t cs):M≠g:=λ e=>by
 obtain⟨es,clock,h1,_⟩:=h;have h2:w.heap[g]? = _:=hb;rw[<- e,h1]at h2;cases h2
theorem Ed.look {t e:Pz} {x z:Px} {l:Lit} (h:Ed P k w M n f) (K:Keyed P k) (ht:P.underlying t=some (.map k e)) (Dp:keyOf P k x=some l) (hz:(zeroValue e).run P w=.ok z w) (c:Bool) :
  (Qg t (.map (some M)) x c).run P w=.ok (if c then .tuple #[(f x).getD z,.bool (f x).isSome] else (f x).getD z) w:=by
 obtain⟨es,clock,hb,_,F⟩:=h
 rcases K.find w Dp es.toList F.keys with ⟨h1,h2⟩ | ⟨j,e0,h1,h2,h3⟩
 ·have hn:f x=none:=by
   cases hf:f x with
   | none=>rfl
   | some v=>obtain⟨e',he,hk'⟩:=F.all x v hf;exact absurd hk' (h2 e' he)
  cases c<;>simp[Qg,run_underlying ht,PV hb,K.check w _ Dp,h1,P3,hz,hn]
 ·have he:=zm h2;have hs:f x=some e0.val:=by rw[<- h3];exact F.has e0 he
  cases c<;>simp[Qg,run_underlying ht,PV hb,K.check w _ Dp,h1,P3,hs]
theorem D0 {es:Array PC} {i:Nat} {g:PC->PC} {R:PC->PC->Prop} (hg:∀ a b,R (g a) b↔R a b) (cB:∀ a b,R a (g b)↔R a b) (h:es.toList.Pairwise R):(es.modify i g).toList.Pairwise R:=by
 rw[PK];generalize es.toList=l at h ⊢;induction l generalizing i with
 | nil=>simp
 | cons a r ih =>
  obtain⟨h1,h2⟩:=Pf.1 h;cases i with
  | zero =>
   rw[List.modify_zero_cons];exact Pf.2 ⟨λ b hb=>(hg a b).2 (h1 b hb),h2⟩
  | succ i =>
   rw[List.modify_succ_cons];refine Pf.2 ⟨λ b hb=>?_,ih h2⟩;obtain⟨j,hj⟩:=Pd.1 hb;rw[L_]at hj;cases hr:r[j]? with
   | none=>rw[hr]at hj;simp at hj
   | some c =>
    rw[hr]at hj;have hc:=h1 c (zm hr);simp at hj;split at hj
    ·rw[<- hj];exact(cB a c).2 hc
    ·rw[<- hj];exact hc
theorem mem_modify {es:Array PC} {i:Nat} {g:PC->PC} {e:PC} (h:e∈(es.modify i g).toList):(∃ a,es[i]? = some a/\e=g a)\/∃ j,j≠i/\es[j]? = some e:=by
 obtain⟨j,hj⟩:=Pd.1 h;rw[PK,L_]at hj;cases hr:es.toList[j]? with
 | none=>rw[hr]at hj;simp at hj
 | some c =>
  rw[hr]at hj;simp at hj;split at hj
  ·rename_i fR;subst fR;exact .inl ⟨c,by simpa using hr,hj.symm⟩
  ·rename_i fR;exact .inr ⟨j,λ e=>fR e.symm,by rw[<- hj];simpa using hr⟩
theorem Ed.put {t e:Pz} {x v:Px} {l:Lit} (h:Ed P k w M n f) (K:Keyed P k) (ht:P.underlying t=some (.map k e)) (Dp:keyOf P k x=some l) :
  ∃ w',(Qf t (.map (some M)) x v).run P w=.ok () w'/\Ed P k w' M (n+1) (rj f x v)/\Kept (·=M) w w'/\w'.heap.size=w.heap.size:=by
 obtain⟨es,clock,hb,hn,F⟩:=h
 have hM:M<w.heap.size:=(PJ.1 hb).1
 have kept:∀ o',Kept (·=M) w (setBlock w M o'):=λ o'=>⟨rfl,rfl,rfl,by simp[setBlock],λ i hi hf=>by
  have hf:¬ i=M:=hf;simp only[setBlock];rw[Array.getElem?_setIfInBounds_ne (λ e=>hf e.symm)]⟩
 rcases K.find w Dp es.toList F.keys with ⟨h1,h2⟩ | ⟨j,e0,h1,h2,h3⟩
 ·refine⟨setBlock w M (.map (es.push { key:=x,val:=v,born:=clock }) (clock+1)),?_,⟨_,_,heap_setBlock_same hb _,by simp;omega,?_⟩,kept _,by simp[setBlock]⟩
  ·simp only[Qf,run_underlying ht,Sem.run_bind,PV hb,K.check w _ Dp,h1,P3];simp[setObj,Sem.run,hb,setBlock]
  ·have hm:∀ e,e∈(es.push { key:=x,val:=v,born:=clock }).toList↔e∈es.toList\/e={ key:=x,val:=v,born:=clock }:=λ e=>by simp
   refine⟨λ e he=>?_,λ e he=>?_,λ y u hy=>?_,?_,λ e he=>?_,?_⟩
   ·rcases(hm e).1 he with he | rfl
    ·exact F.keys e he
    ·exact⟨l,Dp⟩
   ·rcases(hm e).1 he with he | rfl
    ·rw[Dv f (h2 e he)];exact F.has e he
    ·exact IZ f _ _
   ·by_cases pb:y=x
    ·exact⟨_,(hm _).2 (.inr rfl),pb.symm⟩
    ·rw[Dv f pb]at hy;obtain⟨e,he,hk⟩:=F.all y u hy;exact⟨e,(hm e).2 (.inl he),hk⟩
   ·rw[PM,List.pairwise_append];exact⟨F.apart,by simp,λ a ha b hb=>by simp at hb;subst hb;exact h2 a ha⟩
   ·rcases(hm e).1 he with he | rfl
    ·have:=F.old e he;omega
    ·simp
   ·rw[PM,List.map_append,List.nodup_append];refine⟨F.born,by simp,λ a ha b hb=>?_⟩;simp at hb;subst hb;obtain⟨e,he,rfl⟩:=Pg.1 ha;have:=F.old e he;omega
 ·have hj:es[j]? = some e0:=(by simpa using h2);have h2':es.toList[j]? = some e0:=h2;refine⟨setBlock w M (.map (es.modify j λ e=>{ e with key:=x,val:=v }) clock),?_,⟨_,_,heap_setBlock_same hb _,by simp;omega,?_⟩,kept _,by simp[setBlock]⟩
  ·simp only[Qf,run_underlying ht,Sem.run_bind,PV hb,K.check w _ Dp,h1,P3];simp only[hj,Option.map_some,Option.getD_some,h3,K.stays w Dp,Sem.run_bind,P3];simp[setObj,Sem.run,hb,setBlock]
  ·have Bm:∀ i e,es[i]? = some e->i≠j->e.key≠x:=λ i e hi fR hk=>by
    have hi':es.toList[i]? = some e:=(by simpa using hi);have hp:=Pj.1 F.apart;obtain⟨a1,a2⟩:=B_.1 hi';obtain⟨b1,b2⟩:=B_.1 h2';rcases PX i j with AH | Oa
    ·exact hp i j a1 b1 AH (by rw[a2,b2,hk,h3])
    ·exact hp j i b1 a1 (by omega) (by rw[a2,b2,hk,h3])
   have CW:∀ i e,es[i]? = some e->e∈es.toList:=λ i e hi=>zm (show es.toList[i]? = some e by simpa using hi);refine⟨λ e he=>?_,λ e he=>?_,λ y u hy=>?_,?_,λ e he=>?_,?_⟩
   ·rcases mem_modify he with ⟨a,_,rfl⟩ | ⟨i,_,hi⟩
    ·exact⟨l,Dp⟩
    ·exact F.keys e (CW i e hi)
   ·rcases mem_modify he with ⟨a,_,rfl⟩ | ⟨i,fR,hi⟩
    ·exact IZ f _ _
    ·rw[Dv f (Bm i e hi fR)];exact F.has e (CW i e hi)
   ·by_cases pb:y=x
    ·subst pb;refine⟨{ e0 with key:=y,val:=v },?_,rfl⟩;rw[PK];exact zm (i:=j) (by rw[L_];simp[hj])
    ·rw[Dv f pb]at hy;obtain⟨e,he,hk⟩:=F.all y u hy;obtain⟨i,hi⟩:=Pd.1 he;have fR:i≠j:=λ e1=>by
      subst e1
      rw[h2']at hi
      cases hi
      exact pb (hk.symm.trans h3)
     refine⟨e,?_,hk⟩;rw[PK];exact zm (i:=i) (by rw[L_,hi];simp[fR.symm])
   ·
    have e1:(es.modify j λ e=>{ e with key:=x,val:=v })=es.modify j λ e=>{ e with val:=v }:=by
     apply Array.ext
     ·simp
     ·intro i jB oy;simp only[Array.getElem_modify];split
      ·rename_i fR;subst fR;have yJ:j<es.size:=(by simpa using jB);have:es[j]=e0:=by rw[Array.getElem?_eq_getElem yJ]at hj;exact PH hj
       rw[this,<-h3]
      ·rfl
    rw[e1];exact D0 (λ _ _=>Iff.rfl) (λ _ _=>Iff.rfl) F.apart
   ·rcases mem_modify he with ⟨a,ha,rfl⟩ | ⟨i,_,hi⟩
    ·exact F.old a (CW j a ha)
    ·exact F.old e (CW i e hi)
   ·have h4:es.toList.Pairwise λ a b=>a.born≠b.born:=by
     have:=F.born;rw[List.Nodup,Pt]at this;exact this
    rw[List.Nodup,Pt];exact D0 (R:=λ a b=>a.born≠b.born) (λ _ _=>Iff.rfl) (λ _ _=>Iff.rfl) h4
def Jl (P:PD) (k:Pz) (w:Py) (I M:Nat) (f:Px->Option Px) (cnt:Nat):Prop :=
 ∃ es clock since seen c0,w.heap[I]? = some (.mapIter (some M) since seen c0)/\w.heap[M]? = some (.map es clock)/\Ents P k es clock f/\(∀ x∈es.toList,x.born<since)/\since<=c0/\since<=clock/\(leftOf es seen).size=cnt
theorem Jl.start {t e:Pz} (h:Ed P k w M n f) (ht:P.underlying t=some (.map k e)) :
  ∃ cnt,cnt<=n/\∃ w',(Instr.range t (.map (some M))).run P w=.ok (.pointer (some ⟨w.heap.size,0,none⟩)) w'/\Jl P k w' w.heap.size M f cnt/\Ac w w'/\w'.heap.size=w.heap.size+1:=by
 have AH:=h.lt
 obtain⟨es,clock,hb,hs,F⟩:=h
 refine⟨(leftOf es #[]).size,?_,_,run_range_map w t k e M es clock ht hb,⟨es,clock,clock,#[],clock,heap_alloc_new w _,(Qj w _ M AH).trans hb,F,F.old,zl _,zl _,rfl⟩,(zr _ _).alloc _,by simp⟩
 have:(leftOf es #[]).size<=es.size:=by unfold leftOf;exact Array.size_filter_le
 omega
theorem Jl.kept {F:Nat->Prop} {I cnt:Nat} (h:Jl P k w I M f cnt) (hk:Kept F w w') (hI:¬ F I) (hM:¬ F M):Jl P k w' I M f cnt:=by
 obtain⟨es,clock,since,seen,c0,hi,hb,rest⟩:=h;exact⟨es,clock,since,seen,c0,(hk.block I (PJ.1 hi).1 hI).trans hi,(hk.block M (PJ.1 hb).1 hM).trans hb,rest⟩
theorem Jl.next {I cnt:Nat} (h:Jl P k w I M f cnt) (ty:Pz) :
  (cnt=0/\(Qh (.pointer (some ⟨I,0,none⟩)) false ty).run P w=.ok (.tuple #[.bool false]) w) \/
  ∃ x v w' EZ l,f x=some v/\keyOf P k x=some l/\(Qh (.pointer (some ⟨I,0,none⟩)) false ty).run P w=.ok (.tuple #[.bool true,x,v]) w'/\Jl P k w' I M f EZ/\EZ<cnt/\Kept (·=I) w w'/\w'.heap.size=w.heap.size /\
   (Instr.entry (.pointer (some ⟨I,0,none⟩))).run P w'=.ok (.tuple #[x,v]) w':=by
 obtain⟨es,clock,since,seen,c0,hr,hb,F,hold,Oc,hsk,rfl⟩:=h
 have Bm:I≠M:=λ e=>by rw[e,hb]at hr;cases hr
 rcases run_next_at (P:=P) w ty I M since c0 seen es clock hr hb hold Oc with ⟨h0,Nn⟩ | ⟨e,he,w1,tk,Nn⟩
 ·exact .inl ⟨h0,Nn⟩
 ·obtain⟨hem,ts⟩:=mem_left he;obtain⟨l,hl⟩:=F.keys e hem;have Ob:w1.heap[I]? = some (.mapIter (some M) since seen c0):=by rcases tk with rfl | rfl<;>exact hr
  have Fq:w1.heap[M]? = some (.map es clock):=by rcases tk with rfl | rfl<;>exact hb
  have Np:=heap_set (o':=.mapIter (some M) since (seen.push e.born) clock) Ob;have Lx:(setBlock w1 I (.mapIter (some M) since (seen.push e.born) clock)).heap[M]? = some (.map es clock):=(Np.2 M (λ e1=>Bm e1.symm)).trans Fq;refine .inr ⟨e.key,e.val,_,_,l,F.has e hem,hl,Nn,⟨es,clock,since,seen.push e.born,clock,Np.1,Lx,F,hold,hsk,hsk,rfl⟩,left_shrinks es seen e he,?_,?_,run_entry_at _ I M since seen es clock e Np.1 Lx hem F.born⟩
  ·rcases tk with rfl | rfl<;>exact⟨rfl,rfl,rfl,by simp[setBlock],λ i _ hi=>Np.2 i (λ e1=>hi e1)⟩
  ·rcases tk with rfl | rfl<;>simp[setBlock]
def Kz (w:Py) (I M:Nat):Nat:=w.rangeLeft M I
theorem Jl.left {I cnt:Nat} (h:Jl P k w I M f cnt):Kz w I M=cnt:=by
 obtain⟨es,clock,since,seen,c0,hr,hb,F,hold,Oc,hsk,rfl⟩:=h;simp only[Kz,World.rangeLeft,hb,hr]
end
section
variable {P:PD} {k:Pz} {α β:Type} {mk:α->Px} {mv:β->Px} {w w':Py} {M n:Nat} {g:α->Option β}
open Classical in
noncomputable def EG (g:α->Option β) (a:α) (b:β):α->Option β:=λ c=>if c=a then some b else g c
theorem C8 (g:α->Option β) (a:α) (b:β):EG g a b a=some b:=by simp[EG]
theorem CD (g:α->Option β) {a c:α} (b:β) (h:c≠a):EG g a b c=g c:=by simp[EG,h]
def BG (P:PD) (k:Pz) (mk:α->Px) (mv:β->Px) (w:Py) (M n:Nat) (g:α->Option β):Prop :=
 ∃ f,Ed P k w M n f/\(∀ a,f (mk a)=(g a).map mv)/\∀ x v,f x=some v->∃ a,x=mk a
theorem BG.kept {F:Nat->Prop} (h:BG P k mk mv w M n g) (hk:Kept F w w') (hf:¬ F M):BG P k mk mv w' M n g:=by
 obtain⟨f,h1,h2⟩:=h;exact⟨f,h1.kept hk hf,h2⟩
theorem BG.grew (h:BG P k mk mv w M n g) (hk:Ac w w'):BG P k mk mv w' M n g:=h.kept hk λ h=>h
theorem BG.lt (h:BG P k mk mv w M n g):M<w.heap.size:=by obtain⟨f,h1,_⟩:=h;exact h1.lt
theorem BG.mono {m:Nat} (h:BG P k mk mv w M n g) (hm:n<=m):BG P k mk mv w M m g:=by obtain⟨f,h1,h2⟩:=h;exact⟨f,h1.mono hm,h2⟩
theorem BG.congr {g':α->Option β} (h:BG P k mk mv w M n g) (hg:∀ a,g' a=g a):BG P k mk mv w M n g':=by rw[show g'=g from funext hg];exact h
theorem BG.new (w:Py):BG P k mk mv (w.alloc (.map #[] 0)) w.heap.size 0 (λ _=>none):=⟨_,Ed.new w,λ _=>rfl,λ _ _ h=>by cases h⟩
theorem BG.noBlk {t:Pz} {cs:Array Px} {b:Nat} (h:BG P k mk mv w M n g) (hb:Am w b t cs):M≠b:=by obtain⟨f,h1,_⟩:=h;exact h1.noBlk hb
theorem BG.look {t e:Pz} {a:α} {z:Px} {l:Lit} (h:BG P k mk mv w M n g) (K:Keyed P k) (ht:P.underlying t=some (.map k e)) (Dp:keyOf P k (mk a)=some l) (hz:(zeroValue e).run P w=.ok z w) (c:Bool) :
  (Qg t (.map (some M)) (mk a) c).run P w=.ok (if c then .tuple #[((g a).map mv).getD z,.bool (g a).isSome] else ((g a).map mv).getD z) w:=by
 obtain⟨f,h1,h2,_⟩:=h
 rw[h1.look K ht Dp hz c,h2]
 simp
theorem BG.put {t e:Pz} {a:α} {b:β} {l:Lit} (h:BG P k mk mv w M n g) (hinj:∀ a b,mk a=mk b->a=b) (K:Keyed P k) (ht:P.underlying t=some (.map k e)) (Dp:keyOf P k (mk a)=some l) :
  ∃ w',(Qf t (.map (some M)) (mk a) (mv b)).run P w=.ok () w'/\BG P k mk mv w' M (n+1) (EG g a b)/\Kept (·=M) w w'/\w'.heap.size=w.heap.size:=by
 obtain⟨f,h1,h2,h3⟩:=h
 obtain⟨w',hr,hm,hk,hs⟩:=h1.put (v:=mv b) K ht Dp
 refine⟨w',hr,⟨_,hm,λ c=>?_,λ x v hx=>?_⟩,hk,hs⟩
 ·by_cases hc:c=a
  ·subst hc;rw[IZ,C8];rfl
  ·rw[Dv f (λ e=>hc (hinj _ _ e)),CD g b hc,h2]
 ·by_cases Fk:x=mk a
  ·exact⟨a,Fk⟩
  ·rw[Dv f Fk]at hx;exact h3 x v hx
def EK (P:PD) (k:Pz) (mk:α->Px) (mv:β->Px) (w:Py) (I M:Nat) (g:α->Option β) (cnt:Nat):Prop :=
 ∃ f,Jl P k w I M f cnt/\(∀ a,f (mk a)=(g a).map mv)/\∀ x v,f x=some v->∃ a,x=mk a
theorem EK.start {t e:Pz} (h:BG P k mk mv w M n g) (ht:P.underlying t=some (.map k e)) :
  ∃ cnt,cnt<=n/\∃ w',(Instr.range t (.map (some M))).run P w=.ok (.pointer (some ⟨w.heap.size,0,none⟩)) w'/\EK P k mk mv w' w.heap.size M g cnt/\Ac w w'/\w'.heap.size=w.heap.size+1:=by
 obtain⟨f,h1,h2,h3⟩:=h
 obtain⟨cnt,hc,w',hr,hR,hg,hs⟩:=Jl.start h1 ht
 exact⟨cnt,hc,w',hr,⟨f,hR,h2,h3⟩,hg,hs⟩
theorem EK.kept {F:Nat->Prop} {I cnt:Nat} (h:EK P k mk mv w I M g cnt) (hk:Kept F w w') (hI:¬ F I) (hM:¬ F M):EK P k mk mv w' I M g cnt:=by
 obtain⟨f,h1,h2⟩:=h;exact⟨f,h1.kept hk hI hM,h2⟩
theorem EK.next {I cnt:Nat} (h:EK P k mk mv w I M g cnt) (ty:Pz) :
  (cnt=0/\(Qh (.pointer (some ⟨I,0,none⟩)) false ty).run P w=.ok (.tuple #[.bool false]) w) \/
  ∃ a b w' EZ,g a=some b/\(Qh (.pointer (some ⟨I,0,none⟩)) false ty).run P w=.ok (.tuple #[.bool true,mk a,mv b]) w'/\EK P k mk mv w' I M g EZ/\EZ<cnt/\Kept (·=I) w w'/\w'.heap.size=w.heap.size /\
   (Instr.entry (.pointer (some ⟨I,0,none⟩))).run P w'=.ok (.tuple #[mk a,mv b]) w':=by
 obtain⟨f,h1,h2,h3⟩:=h
 rcases h1.next ty with ⟨h0,hr⟩ | ⟨x,v,w',EZ,l,hx,_,hr,hR,AH,hk,hs,he⟩
 ·exact .inl ⟨h0,hr⟩
 ·obtain⟨a,rfl⟩:=h3 x v hx;rw[h2]at hx;obtain⟨b,hb,rfl⟩:=Option.map_eq_some_iff.1 hx;exact .inr ⟨a,b,w',EZ,hb,hr,⟨f,hR,h2,h3⟩,AH,hk,hs,he⟩
theorem EK.left {I cnt:Nat} (h:EK P k mk mv w I M g cnt):Kz w I M=cnt:=by obtain⟨f,h1,_⟩:=h;exact h1.left
theorem BG.len {t e:Pz} (h:BG P k mk mv w M n g) (ht:P.underlying t=some (.map k e)) (ty:Pz):∃ c,c<=n/\(Builtin.len_ #[t] ty #[.map (some M)]).run P w=.ok (.int .i64 (c:Nat)) w:=by
 obtain⟨f,⟨es,clock,hb,hn,F⟩,_⟩:=h;exact⟨es.size,hn,by simp[Builtin.len_,run_underlying ht,PV hb,goInt,P3]⟩
end
end Go.Proofs.YtepelooebggliaaGreatDoor
namespace Go.Proofs.YtepelooebggliaaGreatDoor.Hp
open Go.RowKit
abbrev pt (D:Nat):Px:=.pointer (some ⟨D,0,none⟩)
abbrev u64 (x:Int):Px:=.int .u64 x
abbrev i64 (x:Int):Px:=.int .i64 x
def Cy (e:Itm):List Px:=[i64 e.1,u64 e.2]
def Cd (l:List Itm):List Px:=l.flatMap Cy
theorem EB (l:List Itm):(Cd l).length=l.length*2:=by
 induction l with
 | nil=>rfl
 | cons e l ih=>simp only[Cd,I_,Ps,Pb]at ih ⊢;rw[ih];simp[Cy];omega
theorem Gd (a b:List Itm):Cd (a++b)=Cd a++Cd b:=Pr
theorem J3:∀ (l:List Itm) (i j:Nat) (e:Itm),l[i]? = some e->j<2->(Cd l)[i*2+j]? = (Cy e)[j]?
 | [],i,j,e,h,_=>by simp at h
 | x::l,0,j,e,h,hj=>by
  simp only[H_,PI]at h;subst h;rw[Cd,I_,Nat.zero_mul,PY,Pa (by simp[Cy];omega)]
 | x::l,i+1,j,e,h,hj=>by
  rw[E_]at h;have ih:=J3 l i j e h hj;have e3:(Cy x).length=2:=rfl;rw[Cd,I_,O_ (by omega),e3,show (i+1)*2+j-2=i*2+j by omega];exact ih
theorem J4:∀ (l:List Itm) (i:Nat) (e:Itm),i<l.length->((Cd l).set (i*2) (i64 e.1)).set (i*2+1) (u64 e.2)=Cd (l.set i e)
 | [],i,e,h=>by simp at h
 | x::l,0,e,h=>rfl
 | x::l,i+1,e,h=>by
  have ih:=J4 l i e (by simpa using h);have e3:(Cy x).length=2:=rfl;have ec:Cd (x::l)=Cy x++Cd l:=(by simp[Cd]);rw[ec,Pc _ _ (by omega),Pc _ _ (by omega),e3,show (i+1)*2-2=i*2 by omega,show (i+1)*2+1-2=i*2+1 by omega,ih,G_];simp[Cd]
structure BQ (w:Py) (H A N:Nat) (v:Px) (l:List Itm) (a:List Int):Prop where
 box:Am w H 456 #[v,.slice (some ⟨A,0,none⟩) N N]
 arr:Am w A 3 (a.map i64).toArray
 row:w.ownsRow (H+1) 489 2 v l.length (Cd l)
 lt:A<H
 len:a.length=N
 few:l.length<=65536
 small:N<=65536
abbrev HB (H A:Nat) (v:Px):Nat->Prop:=λ k=>k=H\/k=A\/v.ownBlock=some k
theorem BQ.kept {F:Nat->Prop} {w w':Py} {H A N:Nat} {v:Px} {l:List Itm} {a:List Int} (s:BQ w H A N v l a) (k:Kept F w w') (hF:∀ j,HB H A v j->¬ F j):BQ w' H A N v l a :=
 ⟨s.box.kept k (hF _ (.inl rfl)),s.arr.kept k (hF _ (.inr (.inl rfl))),Kept.own k s.row λ j hj=>hF j (.inr (.inr hj)),s.lt,s.len,s.few,s.small⟩
theorem BQ.grew {w w':Py} {H A N:Nat} {v:Px} {l:List Itm} {a:List Int} (s:BQ w H A N v l a) (k:Ac w w'):BQ w' H A N v l a:=s.kept k λ _ _ h=>h
theorem BQ.slice {w:Py} {H A N:Nat} {v:Px} {l:List Itm} {a:List Int} (s:BQ w H A N v l a):∃ V c,v=.slice V l.length c:=by
 rcases s.row.2 with ⟨h,h0⟩ | ⟨g,cap,_,hv,_⟩
 ·exact⟨none,0,by rw[h,h0]⟩
 ·exact⟨_,cap,hv⟩
theorem BQ.item {w:Py} {H A N:Nat} {v:Px} {l:List Itm} {a:List Int} (s:BQ w H A N v l a) {i:Nat} {e:Itm} (h:l[i]? = some e) :
  ∃ g c,v=.slice (some ⟨g,0,none⟩) l.length c/\H<g/\w.cell? ⟨g,i*2,none⟩=some (i64 e.1)/\w.cell? ⟨g,i*2+1,none⟩=some (u64 e.2)/\l.length<=c:=by
 have hl:=(B_.1 h).1
 rcases s.row.2 with ⟨_,h0⟩ | ⟨g,cap,cur,hv,hg,h1,h2,_⟩
 ·omega
 ·have hr:=s.row;rw[hv]at hr;have hc:∀ j,j<2->w.cell? ⟨g,i*2+j,none⟩=(Cy e)[j]? := λ j hj=>by
   rw[<- J3 l i j _ h hj]
   exact World.ownsRow.cellAt hr (i*2+j) (by omega)
  exact⟨g,cap,hv,hg,hc 0 (by omega),hc 1 (by omega),h2⟩
theorem BQ.place {w:Py} {H A N:Nat} {v:Px} {l:List Itm} {a:List Int} (s:BQ w H A N v l a) {p:Nat} {x:Int} (h:a[p]? = some x):w.cell? ⟨A,p,none⟩=some (i64 x):=by
 rw[s.arr.cell p];simp[h]
theorem ao (p q:Itm) (w:Py):PG P6 441 #[.agg #[i64 p.1,u64 p.2],.agg #[i64 q.1,u64 q.2]] w λ e w'=>e=.returned (.bool (decide (p.2<q.2\/p.2=q.2/\p.1<q.1)))/\Ac w w':=by
 obtain⟨pv,pk⟩:=p;obtain⟨qv,qk⟩:=q;have hK:Ac w ((w.alloc (.cells #[i64 pv,u64 pk] 489)).alloc (.cells #[i64 qv,u64 qk] 489)):=((zr _ _).alloc _).alloc _;rcases Int.lt_trichotomy pk qk with h | h | h
 ·have e1:decide (pk<qk\/pk=qk/\pv<qv)=true:=zt (.inl h);rw[e1];have h1:decide (pk<qk)=true:=zt h;go_enter P8,P7;go_wp2_with fail;go_ret;exact⟨rfl,hK⟩
 ·subst h;rcases P4 pv qv with h2 | h2
  ·have e1:decide (pk<pk\/pk=pk/\pv<qv)=true:=zt (.inr ⟨rfl,h2⟩);rw[e1];go_enter P8,P7;go_wp2_with fail;go_ret;exact⟨by simp[h2],hK⟩
  ·have e1:decide (pk<pk\/pk=pk/\pv<qv)=false:=zf (by omega);rw[e1];go_enter P8,P7;go_wp2_with fail;go_ret;exact⟨by simp;omega,hK⟩
 ·have e1:decide (pk<qk\/pk=qk/\pv<qv)=false:=zf (by omega);rw[e1];have h1:¬ pk<qk:=(by omega);have h2:¬ pk=qk:=(by omega);go_enter P8,P7;go_wp2_with fail;go_ret;exact⟨by simp,hK⟩
theorem Nv {pv pk qv qk:Int} {b:Bool} (h:lessI (pv,pk) (qv,qk)=b) (W:Py):PG P6 441 #[.agg #[i64 pv,u64 pk],.agg #[i64 qv,u64 qk]] W λ e w'=>e=.returned (.bool b)/\Ac W w':=by
 subst h;exact ao (pv,pk) (qv,qk) W
theorem len_any (w:Py) (H A N:Nat) (v:Px) (l:List Itm) (a:List Int) (s:BQ w H A N v l a):PG P6 386 #[pt H] w λ e w'=>e=.returned (i64 l.length)/\w=w':=by
 obtain⟨V,c,rfl⟩:=s.slice;have hc:w.cell? ⟨H,0,none⟩=some (.slice V l.length c):=s.box.cell 0;go_enter Tryz.func386,Tryz.ntmps386;go_wp2_with fail;go_ret;exact⟨rfl,rfl⟩
theorem bp (w:Py) (H A N:Nat) (v:Px) (l:List Itm) (a:List Int) (s:BQ w H A N v l a) (p:Nat) (x:Int) (hx:a[p]? = some x):PG P6 443 #[pt H,i64 (p:Int)] w λ e w'=>e=.returned (i64 x)/\w=w':=by
 have hc:w.cell? ⟨H,1,none⟩=some (.slice (some ⟨A,0,none⟩) N N):=s.box.cell 1;have hp:=s.place hx;have hl:=(B_.1 hx).1;rw[s.len]at hl;have hs:=s.small;have h0:(0:Int)<=(p:Int):=(by omega);have h1:(p:Int)<(N:Int):=(by omega);go_enter Tryz.func443,Tryz.ntmps443;go_wp2_with fail;go_ret;exact⟨rfl,rfl⟩
end Go.Proofs.YtepelooebggliaaGreatDoor.Hp
