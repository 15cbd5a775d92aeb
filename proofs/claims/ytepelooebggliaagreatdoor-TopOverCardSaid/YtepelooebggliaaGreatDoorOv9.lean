/- Walks of functions that the law reaches, and plain laws, part 10 of 20: lemmas for the proof in the last text; no condition. Shortened by program. -/
import Derived.Deep.Onto
import Derived.Deep.QuietTactic
import Derived.BigQuiet
import Derived.Test.YtepelooebggliaaGreatDoorOv0
import Derived.Test.YtepelooebggliaaGreatDoorOv3
import Derived.Test.YtepelooebggliaaGreatDoorOv8
open Go.World renaming heap->A_
open Go.Value renaming slice->B_,cells->C_
open Go.Proofs.Tryz renaming prog->D_,underlying26->E_
open Go renaming World->F_,Value->G_,Calls->H_
open List renaming getD_eq_getElem?_getD->I_,getElem?_toArray->J_,map_append->K_,length_map->L_,getElem?_set_self->M_,length_filter_le->N_,getElem?_set_ne->O_,filter_append->Pa,filter_cons->Pb,range_succ->Pc,filter_nil->Pd,length_set->Pe,replicate->Pf
open Nat renaming le_trans->Pg
open Int renaming toNat_natCast->Ph
open Go.Region renaming wanted->Pj
set_option maxHeartbeats 16000000
set_option maxRecDepth 100000
set_option linter.unusedVariables false
set_option linter.unusedSimpArgs false
namespace Go.Proofs.YtepelooebggliaaGreatDoor
open Go.RowKit
theorem J5 (Ar As:Option Addr) (cr cs:Nat) (rk:List Int) (ss:List Sc) (w:F_) (h:RowI w Ar rk) (h2:EU w As ss) (hl:rk.length<=100000) (hl2:ss.length<=100000) :
  H_ D_ 50 #[.agg #[.slice Ar rk.length cr,.slice As ss.length cs]] w λ e w'=>∃ v1 v2,e=.returned (.agg #[v1,v2])/\AS w' w.heap.size v1 rk/\FI w' w.heap.size v2 ss/\Af w w':=by
 obtain⟨n,hn⟩:=zn (rk.length)
 obtain⟨m,hm⟩:=zn (ss.length)
 have bN:Ao (w.alloc (.cells #[.slice Ar n cr,.slice As m cs] 87)) w.heap.size 87 #[.slice Ar n cr,.slice As m cs]:=zv _ _ _
 obtain⟨w1,AT,g1⟩:=zg w (.cells #[.slice Ar n cr,.slice As m cs] 87)
 have s1:w1.heap.size=w.heap.size+1:=by rw[<- AT];simp
 rw[AT]at bN
 have bR:Ao (w1.alloc (.cells #[.slice none 0 0,.slice none 0 0] 87)) w1.heap.size 87 #[.slice none 0 0,.slice none 0 0]:=zv _ _ _
 have g12:Af w1 (w1.alloc (.cells #[.slice none 0 0,.slice none 0 0] 87)):=(zr _ _).alloc _
 obtain⟨w2,Cc⟩:=zn (w1.alloc (.cells #[.slice none 0 0,.slice none 0 0] 87))
 rw[Cc]at bR g12
 have s2:w2.heap.size=w.heap.size+2:=by rw[<- Cc];simp[s1]
 have H0:=DU (g1.trans g12) s2 bR
 have HC:Hid (∀ w',Af w2 w'->w'.cell? ⟨w.heap.size,0,none⟩=some (.slice Ar n cr)/\w'.cell? ⟨w.heap.size,1,none⟩=some (.slice As m cs)):=λ w' k=>by
  have hb:=(bN.grew g12).grew k;obtain⟨x0,x1⟩:=BP hb;exact⟨x0,x1⟩
 have HI:=zh (GL Ar cr rk w2.drew (h.grew ((g1.trans g12).trans (zr (λ _=>False) w2).drew)) hl)
 have HS:Hid (∀ w',Af w2.drew w'->H_ D_ 84 #[.slice As ss.length cs] w' λ e rN=>∃ v,e=.returned v/\FI rN w'.heap.size v ss/\Af w' rN):=λ w' k=>cD As cs ss w' (h2.kept (((g1.trans g12).trans (zr (λ _=>False) w2).drew).trans k) (λ _ _ h=>h)) hl2
 have HR:Hid (Ao w2.drew w1.heap.size 87 #[.slice none 0 0,.slice none 0 0]):=bR
 have HN:=zh hn
 have HM:=zh hm
 have Ls:=zh (show w1.heap.size=w.heap.size+1 from s1)
 rw[hn]at HI ⊢
 rw[hm]at HS ⊢
 clear hn hm s1 s2 g1 g12 h h2 hl hl2 bN bR
 go_enter Tryz.func50,Tryz.ntmps50
 go_upto_region 1 with fail
 refine rG [7] (λ _=>False) ?_
 refine pG 0 3 ?_
 refine tF 1 4 HC.out ((zr (λ _=>False) _).drew) ?_
 refine pG 3 6 ?_
 refine tF 4 7 HC.out ((zr (λ _=>False) _).drew) ?_
 refine sG 2 5 (λ K Al=>?_)
 go_simp
 refine HI.out.mono ?_
 rintro e wa ⟨v1,rfl,CQ,g1⟩
 obtain⟨A1,c1,Gx,-⟩:=CQ.row
 rw[HN.out]at Gx
 subst Gx
 show K _ _
 refine Al _ _ (λ _=>g1) ?_
 clear Al
 simp only[sA]
 refine sG 5 8 (λ K Al=>?_)
 go_simp
 refine(HS.out _ g1).mono ?_
 rintro e wb ⟨v2,rfl,Cw,g2⟩
 obtain⟨A2,c2,IB,-,-⟩:=Cw.row
 rw[HM.out]at IB
 subst IB
 have g12:Af w2.drew wb:=g1.trans g2
 have hb:=HR.out.grew g12
 have z0:=hb.frozen 0
 have z1:=(hb.set 0 (.slice A1 n c1)).frozen 1
 have z2:=hb.cell 0
 have z3:=(hb.set 0 (.slice A1 n c1)).cell 1
 simp at z2 z3
 show K _ _
 refine Al _ _ (λ _=>g2) ?_
 clear Al
 simp only[sA]
 refine pG 6 9 ?_
 refine Du 7 (λ K Al=>?_)
 go_simp
 refine Al _ (λ h=>absurd (by simp) h) ?_
 clear Al
 refine dG ?_
 obtain⟨t5,t6⟩:=F8 hb (.slice A1 n c1) (.slice A2 m c2)
 obtain⟨q0,q1⟩:=BP t5
 have Da:=H0.out.1.size
 have hHS:=Ls.out
 have hH2:=H0.out.2.1
 have hd:w2.drew.heap.size=w2.heap.size:=rfl
 have HF:=zh (show _/\_/\_ from ⟨AD ((CQ.grew g2).kept t6 (λ j hj lI=>by
   have h1:=(Ap CQ hj).1;omega)) (show w.heap.size<=w2.drew.heap.size by omega),AD (Kept.own t6 Cw (λ j hj lI=>by
   have h1:=(Ap Cw hj).1;have:=g1.size;omega)) (show w.heap.size<=wa.heap.size by have:=g1.size;omega),((H0.out.1.trans ((zr (λ _=>False) w2).drew.trans g12)).then t6 (λ i hi h=>by omega):Af w _)⟩)
 clear HI HS HC HR hb t5 t6 CQ Cw g1 g2 g12 Da hHS hH2 hd
 go_wp2_with fail
 exact zy (v:=.agg #[.slice A1 n c1,.slice A2 m c2]) (by simp[results,Tryz.results50,go_sem,q0,q1]) rfl ⟨_,_,rfl,HF.out⟩
section
variable {P:Program} {ops:Array Oper} {Q:Exit->Act->F_->Prop} {md:Region.Mode} {E:List Nat} {F:Nat->Prop}
theorem Ij (i d j d2 k d3:Nat) {oi oj ok:Oper} {fuel:Nat} {listed:Array Bool} {T:Array G_} {D:List Deferred} {w:F_} (hi:ops[i]? = some oi) (hj:ops[j]? = some oj) (hk:ops[k]? = some ok)
  (hr:Region.ready md ops listed=[i,j,k]) (hd:(ops[i]?).bind (·.dst)=some d) (vm:(ops[j]?).bind (·.dst)=some d2) (hd3:(ops[k]?).bind (·.dst)=some d3) (hw:Pj oi (yielded ops T)=true) (Cc:Pj oj (yielded ops T)=true) (Db:Pj ok (yielded ops T)=true)
  (h:∀ K:Act->F_->Prop,(∀ (v:G_) (w':F_),(i∉E->Kept F w w')->AM P md ops E F Q fuel (listed.setIfInBounds i true) ⟨T.setIfInBounds d v,D⟩ w'->K (Act.put ⟨T,D⟩ (some d) v) w')->({ oi with dst:=some d }).wp P ⟨T,D⟩ w K Q)
  (h2:∀ K:Act->F_->Prop,(∀ (v:G_) (w':F_),(j∉E->Kept F w w')->AM P md ops E F Q fuel (listed.setIfInBounds j true) ⟨T.setIfInBounds d2 v,D⟩ w'->K (Act.put ⟨T,D⟩ (some d2) v) w')->({ oj with dst:=some d2 }).wp P ⟨T,D⟩ w K Q)
  (h3:∀ K:Act->F_->Prop,(∀ (v:G_) (w':F_),(k∉E->Kept F w w')->AM P md ops E F Q fuel (listed.setIfInBounds k true) ⟨T.setIfInBounds d3 v,D⟩ w'->K (Act.put ⟨T,D⟩ (some d3) v) w')->({ ok with dst:=some d3 }).wp P ⟨T,D⟩ w K Q):AM P md ops E F Q (fuel+1) listed ⟨T,D⟩ w:=by
 have one:∀ (i d:Nat) (oi:Oper) (_:ops[i]? = some oi) (_:(ops[i]?).bind (·.dst)=some d) (_:Pj oi (yielded ops T)=true) (_:∀ K:Act->F_->Prop,(∀ (v:G_) (w':F_),(i∉E->Kept F w w')->AM P md ops E F Q fuel (listed.setIfInBounds i true) ⟨T.setIfInBounds d v,D⟩ w'->K (Act.put ⟨T,D⟩ (some d) v) w')->({ oi with dst:=some d }).wp P ⟨T,D⟩ w K Q),
   wpOp P ops Q i (λ a' w'=>(i∉E->Kept F w w')/\AM P md ops E F Q fuel (listed.setIfInBounds i true) a' w') ⟨T,D⟩ w:=by
  intro i d oi hi hd hw h
  unfold wpOp
  simp only[hi,hw,if_true]
  have e:({ oi with dst:=some d }:Oper)=oi:=by rw[<- FL hi hd]
  rw[<- e]
  refine .inl (Oper.wp_mono ?_ (h (λ a' w'=>∃ v,a'=Act.put ⟨T,D⟩ (some d) v/\(i∉E->Kept F w w')/\AM P md ops E F Q fuel (listed.setIfInBounds i true) ⟨T.setIfInBounds d v,D⟩ w') λ v w' h1 h2=>⟨v,rfl,h1,h2⟩))
  rintro a' w' ⟨v,rfl,h1,h2⟩
  exact⟨h1,h2⟩
 refine⟨λ h0=>(by rw[hr]at h0;cases h0),λ x hx=>?_⟩
 rw[hr]at hx
 rcases List.mem_cons.1 hx with rfl | hx
 ·exact one _ _ _ hi hd hw h
 ·rcases List.mem_cons.1 hx with rfl | hx
  ·exact one _ _ _ hj vm Cc h2
  ·obtain rfl:=List.mem_singleton.1 hx;exact one _ _ _ hk hd3 Db h3
end
def bK (rk:List Int) (s:Sc):Bool:=!decide (rk.getD s.to'.toNat 0<rk.getD s.from'.toNat 0)
def bL (rk:List Int) (ss:List Sc) (k:Nat) (u:Int):List Int:=((List.range k).filter (λ i=>match ss[i]? with | some s=>decide (s.from'=u)&&bK rk s | none=>false)).map (λ (i:Nat)=>(i:Int))
def bj (rk:List Int) (ss:List Sc) (k:Nat) (u:Int):List Int:=((List.range k).filter (λ i=>match ss[i]? with | some s=>decide (s.to'=u)&&!bK rk s | none=>false)).map (λ (i:Nat)=>(i:Int))
theorem qQ (rk:List Int) (ss:List Sc) (u:Int):bL rk ss 0 u=[]:=rfl
theorem mW (rk:List Int) (ss:List Sc) (u:Int):bj rk ss 0 u=[]:=rfl
theorem KZ (rk:List Int) (ss:List Sc) (k:Nat) (u:Int) (s:Sc) (h:ss[k]? = some s):bL rk ss (k+1) u=if s.from'=u/\bK rk s=true then bL rk ss k u++[(k:Int)] else bL rk ss k u:=by
 unfold bL;rw[Pc,Pa,K_];simp only[Pb,Pd,h];by_cases h1:s.from'=u<;>by_cases h2:bK rk s=true<;>simp[h1,h2]
theorem JW (rk:List Int) (ss:List Sc) (k:Nat) (u:Int) (s:Sc) (h:ss[k]? = some s):bj rk ss (k+1) u=if s.to'=u/\bK rk s=false then bj rk ss k u++[(k:Int)] else bj rk ss k u:=by
 unfold bj;rw[Pc,Pa,K_];simp only[Pb,Pd,h];by_cases h1:s.to'=u<;>by_cases h2:bK rk s=true<;>simp[h1,h2]
theorem gJ (rk:List Int) (ss:List Sc) (k:Nat) (u:Int):(bL rk ss k u).length<=k:=by
 unfold bL;rw[L_];exact Pg (N_ _ _) (by simp)
theorem eX (rk:List Int) (ss:List Sc) (k:Nat) (u:Int):(bj rk ss k u).length<=k:=by
 unfold bj;rw[L_];exact Pg (N_ _ _) (by simp)
theorem fW {w:F_} {B:Nat} {A:Option Addr} {n c:Nat} {zs:List Int} (h:AS w B (.slice A n c) zs):zs.length<=c:=by
 rcases h.2 with ⟨hv,h0⟩ | ⟨g,cap,cur,hv,hb,hg,Bi,_⟩
 ·omega
 ·cases hv;exact Bi
theorem N7 (w:F_) (B:Nat) (A:Option Addr) (n c:Nat) (zs:List Int) (hn:zs.length=n) (h:AS w B (.slice A n c) zs) (a:Addr) (x:Int) (hx:w.cell? (a.add 0)=some (i64 x)) (hl:n<=100000) (ty:TypeId) :
  ∃ v' w',(Builtin.append_ #[26,26] ty #[.slice A n n,.slice (some a) 1 1]).run D_ w=.ok v' w'/\AS w' w.heap.size v' (zs++[x])/\Af w w':=by
 obtain⟨i,hi,hz,h1,h2⟩:=info_parts info_int
 have vD:∀ j v,([i64 x]:List G_)[j]? = some v->w.cell? (a.add j)=some v:=λ j v hv=>by
  have hj:=(List.getElem?_eq_some_iff.1 hv).1;simp at hj;subst hj;simp at hv;rw[<- hv];exact hx
 have grown:∀ (old:Nat),(w.drew.alloc (.cells ((zs.map i64).toArray++#[i64 x]++Builtin.zeroCells (C_ (.int .i64 0)) (grownCap w (n+1) old 3-(n+1))) 3)).ownsRow w.heap.size 3 1
    (.slice (some ⟨w.heap.size,0,none⟩) (n+1) (grownCap w (n+1) old 3)) (n+1) ((zs++[x]).map i64):=by
  intro old
  have NP:=grownCap_ge w (n+1) old 3
  have fj:grownCap w (n+1) old 3<=maxLen:=grownCap_le_maxLen w (n+1) old 3 (by unfold maxLen;omega)
  refine⟨by simp[hn],.inr ⟨w.heap.size,_,_,rfl,zl _,heap_alloc_new w.drew _,NP,fj,?_,?_⟩⟩
  ·simp only[Array.size_append,List.size_toArray,size_zeroCells,L_,hn];simp[C_];omega
  ·simp only[Array.toList_append,K_,List.map_cons,List.map_nil];rw[show (n+1)*1=(zs.map i64++[i64 x]).length by simp[hn]];exact List.take_left
 have hg:Af w (w.drew):=(zr _ _).drew
 rcases h.2 with ⟨hv,h0⟩ | ⟨g,cap,cur,hv,hb,jc,Bi,hm,Da,Lz⟩
 ·cases hv;obtain rfl:zs=[]:=List.eq_nil_of_length_eq_zero h0;have hr:=run_append_nil (P:=D_) w 26 ty 3 i _ E_ hi hz a 1 1 [i64 x] (by rw[h1];rfl) vD (by omega) (by omega) (by rw[h2];omega);have Cn:=grown 0;refine⟨_,_,hr,?_,hg.alloc _⟩;simpa [AS] using Cn
 ·cases hv;have holds:=h.cells (g:=g) rfl;have hr:=run_append_grow (P:=D_) w 26 ty 3 i _ E_ hi hz ⟨g,0,none⟩ zs.length zs.length (zs.map i64) (by rw[h1];simp) holds a 1 1 [i64 x] (by rw[h1];rfl) vD (by omega) (by omega) (by rw[h2];exact growslice_fits (by omega) (by omega));refine⟨_,_,hr,?_,hg.alloc _⟩;have:=grown zs.length;unfold AS;rw[List.length_append];exact this
theorem Ek {ops:Array Oper} {rest:List Oper} {o:Oper} {a:Act} {w:F_} {Q:Exit->Act->F_->Prop} (hgd:o.guard=none) (s x:Operand)
  (ho:o.op=.call { callee:=.builtin .append,args:=#[s,x],argTypes:=#[26,26] }) (B:Nat) (A:Option Addr) (n c:Nat) (zs:List Int) (hn:zs.length=n) (AV:AS w B (.slice A n c) zs) (ad:Addr) (y:Int) (hy:w.cell? (ad.add 0)=some (i64 y)) (hl:n<=100000)
  (hs:a.eval s=.slice A n n) (hx:a.eval x=.slice (some ad) 1 1) (h:∀ v' w',AS w' w.heap.size v' (zs++[y])->Af w w'->wpList D_ ops Q rest (a.put o.dst v') w'):wpList D_ ops Q (o::rest) a w :=
 wpList_plain hgd λ K hK=>by
  obtain⟨v',w',hr,h2,h3⟩:=N7 w B A n c zs hn AV ad y hy hl o.type;unfold Oper.wp execOp;simp only[ho,resolve,invoke,builtin,Sem.run_bind,Sem.run_pure,Result.andThen_ok,List.map_toArray,List.map_cons,List.map_nil,hs,hx,hr];exact hK _ _ (h v' w' h2 h3)
structure Cg (w:F_) (H B N:Nat) (es:List AJ) (rk:List Int) (ss:List Sc) (k:Nat) (v1 v2 v3:G_) (U D:Nat) (us ds:List G_):Prop where
 blk:Ao w H 119 #[i64 N,v1,v2,v3,.slice (some ⟨U,0,none⟩) N N,.slice (some ⟨D,0,none⟩) N N]
 edg:AP w B v1 es
 rank:AS w B v2 rk
 cuts:FI w B v3 ss
 ub:Ao w U 26 us.toArray
 db:Ao w D 26 ds.toArray
 ul:us.length=N
 dl:ds.length=N
 ur:∀ (u:Nat) v,us[u]? = some v->AS w B v (bL rk ss k u)
 dr:∀ (u:Nat) v,ds[u]? = some v->AS w B v (bj rk ss k u)
 base:B<=H/\B<=U/\B<=D
 ud:U≠D
def Cf (w:F_) (H B N:Nat) (es:List AJ) (rk:List Int) (ss:List Sc):Prop:=∃ v1 v2 v3 U D us ds,Cg w H B N es rk ss ss.length v1 v2 v3 U D us ds
theorem Cg.kept {F:Nat->Prop} {w w':F_} {H B N:Nat} {es:List AJ} {rk:List Int} {ss:List Sc} {k:Nat} {v1 v2 v3:G_} {U D:Nat} {us ds:List G_} (h:Cg w H B N es rk ss k v1 v2 v3 U D us ds) (g:Kept F w w') (hF:∀ j,B<=j->¬ F j):Cg w' H B N es rk ss k v1 v2 v3 U D us ds where
 blk:=h.blk.kept g (hF _ h.base.1)
 edg:=Kept.own g h.edg λ j hj=>hF j (Ap h.edg hj).1
 rank:=h.rank.kept g λ j hj=>hF j (Ap h.rank hj).1
 cuts:=Kept.own g h.cuts λ j hj=>hF j (Ap h.cuts hj).1
 ub:=h.ub.kept g (hF _ h.base.2.1)
 db:=h.db.kept g (hF _ h.base.2.2)
 ul:=h.ul
 dl:=h.dl
 ur:=λ u v hv=>(h.ur u v hv).kept g λ j hj=>hF j (Ap (h.ur u v hv) hj).1
 dr:=λ u v hv=>(h.dr u v hv).kept g λ j hj=>hF j (Ap (h.dr u v hv) hj).1
 base:=h.base
 ud:=h.ud
theorem Cf.kept {F:Nat->Prop} {w w':F_} {H B N:Nat} {es:List AJ} {rk:List Int} {ss:List Sc} (h:Cf w H B N es rk ss) (g:Kept F w w') (hF:∀ j,B<=j->¬ F j):Cf w' H B N es rk ss:=by
 obtain⟨v1,v2,v3,U,D,us,ds,h⟩:=h;exact⟨v1,v2,v3,U,D,us,ds,h.kept g hF⟩
theorem Cf.grew {w w':F_} {H B N:Nat} {es:List AJ} {rk:List Int} {ss:List Sc} (h:Cf w H B N es rk ss) (g:Af w w'):Cf w' H B N es rk ss:=h.kept g λ _ _ h=>h
theorem Cg.toUp {w:F_} {H B N:Nat} {es:List AJ} {rk:List Int} {ss:List Sc} {k p:Nat} {v1 v2 v3 v':G_} {U D:Nat} {us ds:List G_} {s:Sc} (h:Cg w H B N es rk ss k v1 v2 v3 U D us ds) (hs:ss[k]? = some s) (hp:p<N) (hf:s.from'=(p:Int)) (hb:bK rk s=true) (ho:AS w B v' (bL rk ss k p++[(k:Int)])) :
  Cg (w.setCell ⟨U,p,none⟩ v') H B N es rk ss (k+1) v1 v2 v3 U D (us.set p v') ds:=by
 have g:Kept (λ j=>j=U) w (w.setCell ⟨U,p,none⟩ v'):=(zr (λ j=>j=U) w).setCell (p:=⟨U,p,none⟩) (.inl rfl) _
 have hHU:H≠U:=λ e=>by
  have h1:=h.blk;rw[e]at h1;have h2:=h1.symm.trans h.ub;injection h2 with h2;injection h2 with _ h3;exact absurd h3 (by decide)
 refine⟨h.blk.kept g hHU,Kept.own g h.edg λ j hj e=>AA h.edg h.ub (by decide) (e▸hj),h.rank.kept g λ j hj e=>AA h.rank h.ub (by decide) (e▸hj),Kept.own g h.cuts λ j hj e=>AA h.cuts h.ub (by decide) (e▸hj),
  by simpa using h.ub.set p v',h.db.kept g (λ e=>h.ud e.symm),by rw[Pe];exact h.ul,h.dl,λ u v hv=>?_,λ u v hv=>?_,h.base,h.ud⟩
 ·by_cases hu:u=p
  ·subst hu;rw[M_ (by rw[h.ul];exact hp)]at hv;cases hv;rw[KZ rk ss k _ s hs,if_pos ⟨hf,hb⟩];exact ho.kept g λ j hj e=>AA ho h.ub (by decide) (e▸hj)
  ·rw[O_ (λ e=>hu e.symm)]at hv;rw[KZ rk ss k _ s hs,if_neg (λ e=>hu (by have:=e.1;omega))];exact(h.ur u v hv).kept g λ j hj e=>AA (h.ur u v hv) h.ub (by decide) (e▸hj)
 ·rw[JW rk ss k _ s hs,if_neg (λ e=>by rw[hb]at e;cases e.2)];exact(h.dr u v hv).kept g λ j hj e=>AA (h.dr u v hv) h.ub (by decide) (e▸hj)
theorem Cg.toDn {w:F_} {H B N:Nat} {es:List AJ} {rk:List Int} {ss:List Sc} {k p:Nat} {v1 v2 v3 v':G_} {U D:Nat} {us ds:List G_} {s:Sc} (h:Cg w H B N es rk ss k v1 v2 v3 U D us ds) (hs:ss[k]? = some s) (hp:p<N) (hf:s.to'=(p:Int)) (hb:bK rk s=false) (ho:AS w B v' (bj rk ss k p++[(k:Int)])) :
  Cg (w.setCell ⟨D,p,none⟩ v') H B N es rk ss (k+1) v1 v2 v3 U D us (ds.set p v'):=by
 have g:Kept (λ j=>j=D) w (w.setCell ⟨D,p,none⟩ v'):=(zr (λ j=>j=D) w).setCell (p:=⟨D,p,none⟩) (.inl rfl) _
 have hHU:H≠D:=λ e=>by
  have h1:=h.blk;rw[e]at h1;have h2:=h1.symm.trans h.db;injection h2 with h2;injection h2 with _ h3;exact absurd h3 (by decide)
 refine⟨h.blk.kept g hHU,Kept.own g h.edg λ j hj e=>AA h.edg h.db (by decide) (e▸hj),h.rank.kept g λ j hj e=>AA h.rank h.db (by decide) (e▸hj),Kept.own g h.cuts λ j hj e=>AA h.cuts h.db (by decide) (e▸hj),
  h.ub.kept g h.ud,by simpa using h.db.set p v',h.ul,by rw[Pe];exact h.dl,λ u v hv=>?_,λ u v hv=>?_,h.base,h.ud⟩
 ·rw[KZ rk ss k _ s hs,if_neg (λ e=>by rw[hb]at e;cases e.2)];exact(h.ur u v hv).kept g λ j hj e=>AA (h.ur u v hv) h.db (by decide) (e▸hj)
 ·by_cases hu:u=p
  ·subst hu;rw[M_ (by rw[h.dl];exact hp)]at hv;cases hv;rw[JW rk ss k _ s hs,if_pos ⟨hf,hb⟩];exact ho.kept g λ j hj e=>AA ho h.db (by decide) (e▸hj)
  ·rw[O_ (λ e=>hu e.symm)]at hv;rw[JW rk ss k _ s hs,if_neg (λ e=>hu (by have:=e.1;omega))];exact(h.dr u v hv).kept g λ j hj e=>AA (h.dr u v hv) h.db (by decide) (e▸hj)
theorem BC (w:F_) (H B N:Nat) (es:List AJ) (rk:List Int) (ss:List Sc) (v1 v2 v3:G_) (U D:Nat) (blk:Ao w H 119 #[i64 N,v1,v2,v3,.slice (some ⟨U,0,none⟩) N N,.slice (some ⟨D,0,none⟩) N N]) {B1 B2 B3:Nat} (edg:AP w B1 v1 es) (rank:AS w B2 v2 rk) (cuts:FI w B3 v3 ss)
  (ub:Ao w U 26 (madeCells #[B_ none 0 0] N)) (db:Ao w D 26 (madeCells #[B_ none 0 0] N)) (b1:B<=B1) (b2:B<=B2) (b3:B<=B3) (bH:B<=H) (bU:B<=U) (bD:B<=D) (yI:U≠D):Cg w H B N es rk ss 0 v1 v2 v3 U D (Pf N (.slice none 0 0)) (Pf N (.slice none 0 0)):=by
 have e:=Ia (.slice none 0 0) N rfl
 simp only[C_]at e
 rw[e]at ub db
 refine⟨blk,AD edg b1,AD rank b2,AD cuts b3,ub,db,by simp,by simp,λ u v hv=>?_,λ u v hv=>?_,⟨bH,bU,bD⟩,yI⟩
 ·have:=zm hv;simp at this;rw[this.2];exact⟨by simp[qQ],.inl ⟨rfl,rfl⟩⟩
 ·have:=zm hv;simp at this;rw[this.2];exact⟨by simp[mW],.inl ⟨rfl,rfl⟩⟩
theorem ju:(D_.info? 26).map (λ i=>(i.zero,i.size,i.bytes))=some (some (.slice none 0 0),1,24):=by kernel_rfl
theorem ot (A Ar As:Option Addr) (c N cr cs:Nat) (es:List AJ) (rk:List Int) (ss:List Sc) (w:F_) (h:Bo w A es) (h2:RowI w Ar rk) (h3:EU w As ss) (hle:es.length<=100000) (GU:rk.length<=100000) (DS:ss.length<=100000) (DR:ss.length<=cs) (hr:Au N es=0) (hm:made N es rk ss) (hN:N<=4096) :
  H_ D_ 192 #[.agg #[i64 N,.slice A es.length c],.agg #[.slice Ar rk.length cr,.slice As ss.length cs]] w λ e w'=>∃ H,e=.returned (.tuple #[pt H,i64 0])/\Cf w' H w.heap.size N es rk ss/\Af w w':=by
 have bN:Ao (w.alloc (.cells #[i64 N,.slice A es.length c] 24)) w.heap.size 24 #[i64 N,.slice A es.length c]:=zv _ _ _
 obtain⟨w1,AT,g1⟩:=zg w (.cells #[i64 N,.slice A es.length c] 24)
 have s1:w1.heap.size=w.heap.size+1:=by rw[<- AT];simp
 rw[AT]at bN
 have bO:Ao (w1.alloc (.cells #[.slice Ar rk.length cr,.slice As ss.length cs] 87)) w1.heap.size 87 #[.slice Ar rk.length cr,.slice As ss.length cs]:=zv _ _ _
 have g12:Af w1 (w1.alloc (.cells #[.slice Ar rk.length cr,.slice As ss.length cs] 87)):=(zr _ _).alloc _
 obtain⟨w2,Cc⟩:=zn (w1.alloc (.cells #[.slice Ar rk.length cr,.slice As ss.length cs] 87))
 rw[Cc]at bO g12
 have s2:w2.heap.size=w.heap.size+2:=by rw[<- Cc];simp[s1]
 have Ls:=BO ((show w1.heap.size=w.heap.size+1 from s1)) s2
 have g2:=g1.trans g12
 have HM:=zh (po (N:Int) es A c rk Ar cr ss As cs w2 (h.grew g2) (h2.grew g2) (h3.kept g2 (λ _ _ h=>h)) hle GU DS DR)
 have rQ:Hid (∀ w',Af w2 w'->w'.cell? ⟨w.heap.size,0,none⟩=some (i64 N)/\w'.cell? ⟨w.heap.size,1,none⟩=some (.slice A es.length c)/\w'.cell? ⟨w1.heap.size,0,none⟩=some (.slice Ar rk.length cr)/\w'.cell? ⟨w1.heap.size,1,none⟩=some (.slice As ss.length cs)):=λ w' k=>by
  have hb:=(bN.grew g12).grew k;have Gq:=bO.grew k;have x0:=hb.cell 0;have x1:=hb.cell 1;have x2:=Gq.cell 0;have x3:=Gq.cell 1;simp at x0 x1 x2 x3;exact⟨x0,x1,x2,x3⟩
 have H0:=Fo g2 (h.grew g2) (h2.grew g2) ((h3.kept g2 (λ _ _ h=>h):EU w2 As ss)) hm
 have HH:=Em hr hle GU DS
 obtain⟨i1,je,FA,Lj,tt⟩:=info_parts ju
 have bz:=λ W=>run_make (P:=D_) W 117 26 i1 _ Tryz.underlying117 je FA .i64 .i64 (N:Int) (N:Int) (by omega) (Int.le_refl _) (by rw[tt];omega) (by omega)
 simp only[Ph,Lj,Nat.mul_one]at bz
 obtain⟨q0,q1,q2,q3⟩:=rQ.out w2 (zr _ _)
 clear bN bO g1 g12 g2 h h2 h3 hr hm hle GU DS je FA Lj tt s1 s2
 go_enter Tryz.func192,Tryz.ntmps192
 go_wp2_with fail
 refine HM.out.mono ?_
 rintro e w5 ⟨⟨kk,b,rfl,hb,hk⟩,g5⟩
 obtain rfl:b=true:=hb.2 ⟨HH.out.1,H0.out.2.2.2.2⟩
 obtain rfl:kk=0:=hk rfl
 have G5:=zh g5
 have HC:Hid (∀ w',Af w5 w'->w'.cell? ⟨w.heap.size,0,none⟩=some (i64 N)/\w'.cell? ⟨w.heap.size,1,none⟩=some (.slice A es.length c)/\w'.cell? ⟨w1.heap.size,0,none⟩=some (.slice Ar rk.length cr)/\w'.cell? ⟨w1.heap.size,1,none⟩=some (.slice As ss.length cs)):=λ w' k=>rQ.out w' (g5.trans k)
 have zT:Hid (∀ w',Af w5 w'->H_ D_ 136 #[.agg #[i64 N,.slice A es.length c]] w' λ e rN=>∃ v,e=.returned (.agg #[i64 N,v])/\AP rN w'.heap.size v es/\Af w' rN):=λ w' k=>C0 (N:Int) A c es w' (H0.out.2.1.grew (g5.trans k)) HH.out.2.1
 have lv:Hid (∀ w',Af w5 w'->H_ D_ 50 #[.agg #[.slice Ar rk.length cr,.slice As ss.length cs]] w' λ e rN=>∃ v1 v2,e=.returned (.agg #[v1,v2])/\AS rN w'.heap.size v1 rk/\FI rN w'.heap.size v2 ss/\Af w' rN):=λ w' k=>J5 Ar As cr cs rk ss w' (H0.out.2.2.1.grew (g5.trans k)) (H0.out.2.2.2.1.kept (g5.trans k) (λ _ _ h=>h)) HH.out.2.2.1 HH.out.2.2.2
 have gU:Hid (w.heap.size+2<=w5.heap.size):=by have:=g5.size;have:=Ls.out.2;show _<=_;omega
 clear HM hb hk g5 q0 q1 q2 q3 rQ
 go_upto_region 6 with fail
 have gz:Af w5 w5.drew:=(zr _ _).drew
 go_cut [8] (λ s8 wx=>∃ H,s8=pt H/\∃ v1 v2 v3 U D us ds,Cg wx H w5.heap.size N es rk ss 0 v1 v2 v3 U D us ds/\Af w5 wx)
 case first =>
  refine rG [] (λ _=>False) ?_;obtain⟨y0,Dp⟩:=zn (w5.drew);rw[Dp]at gz ⊢;clear Dp;refine tF 0 26 HC.out gz ?_;refine tF 2 28 HC.out gz ?_;refine pG 4 30 ?_;refine tF 5 31 HC.out gz ?_;refine pG 7 33 ?_;refine tF 8 34 HC.out gz ?_;refine Ij 1 27 6 32 9 35 rfl rfl rfl (by kernel_rfl) rfl rfl rfl (by rfl) (by rfl) (by rfl) (λ K Al=>?_) (λ K Al=>?_) (λ K Al=>?_)
  ·skip;go_simp;refine(zT.out _ (gz)).mono ?_;rintro e y1 ⟨e1,rfl,CQ,g1⟩;obtain⟨A1,c1,rfl⟩:=At CQ;show K _ _;refine Al (.agg #[i64 N,.slice A1 es.length c1]) _ (λ _=>g1) ?_;clear Al;simp only[sA];refine Ij 3 29 6 32 9 35 rfl rfl rfl (by kernel_rfl) rfl rfl rfl (by rfl) (by rfl) (by rfl) (λ K Al=>?_) (λ K Al=>?_) (λ K Al=>?_)
   ·skip;go_simp;refine(lv.out _ ((gz).trans g1)).mono ?_;rintro e y2 ⟨v1,v2,rfl,Cw,E9,g2⟩;obtain⟨A2,c2,rfl⟩:=At Cw;obtain⟨A3,c3,rfl⟩:=At E9;show K _ _;refine Al (.agg #[.slice A2 rk.length c2,.slice A3 ss.length c3]) _ (λ _=>g2) ?_;clear Al;simp only[sA];refine AO 6 32 9 35 rfl rfl (by kernel_rfl) rfl rfl (by rfl) (by rfl) (λ K Al=>?_) (λ K Al=>?_)
    ·skip;go_simp;obtain⟨y3,CR,g3⟩:=zg y2 (.cells (madeCells #[B_ none 0 0] N) 26);have bU:Ao y3 (A_ y2).size 26 (madeCells #[B_ none 0 0] N):=by rw[<- CR];exact zv _ _ _
     rw[CR];refine Al (.slice (some ⟨(A_ y2).size,0,none⟩) N N) _ (λ _=>g3) ?_;clear Al;simp only[sA];refine sG 9 35 (λ K Al=>?_);go_simp;obtain⟨y4,FB,g4⟩:=zg y3 (.cells (madeCells #[B_ none 0 0] N) 26);have bD:Ao y4 (A_ y3).size 26 (madeCells #[B_ none 0 0] N):=by rw[<- FB];exact zv _ _ _
     rw[FB];refine Al (.slice (some ⟨(A_ y3).size,0,none⟩) N N) _ (λ _=>g4) ?_;clear Al;simp only[sA];refine pG 10 36 ?_;refine sG 11 37 (λ K Al=>?_);go_simp;have gb:Af y4 (y4.alloc (.cells #[i64 N,.slice A1 es.length c1,.slice A2 rk.length c2,.slice A3 ss.length c3,.slice (some ⟨(A_ y2).size,0,none⟩) N N,.slice (some ⟨(A_ y3).size,0,none⟩) N N] 119)):=(zr _ _).alloc _;refine Al (pt y4.heap.size) _ (λ _=>gb) ?_;clear Al;simp only[sA];refine pG 12 8 ?_;refine dG ?_;go_wp2_with fail;go_meet;refine⟨_,rfl,_,_,_,_,_,_,_,BC _ _ _ _ _ _ _ _ _ _ _ _ (by exact zv _ _ _) (Af.own gb (Af.own (((g2).trans g3).trans g4) CQ)) ((Cw.grew ((g3).trans g4)).grew gb) (Af.own gb (Af.own ((g3).trans g4) E9)) ((bU.grew (g4)).grew gb) ((bD.grew ((zr (λ _=>False) _))).grew gb) ?_ ?_ ?_ ?_ ?_ ?_ ?_,?_⟩;all_goals first
      | (exact(((gz.trans g1).trans g2).trans g3).trans g4 |>.trans gb)
      | (have z0:=gz.size;have z1:=g1.size;have z2:=g2.size;have z3:=g3.size;have z4:=g4.size;have q1:=bU.lt;have q2:=bD.lt;have zz:=gU.out;omega)
    ·skip;go_simp;obtain⟨y3,CR,g3⟩:=zg y2 (.cells (madeCells #[B_ none 0 0] N) 26);have bD:Ao y3 (A_ y2).size 26 (madeCells #[B_ none 0 0] N):=by rw[<- CR];exact zv _ _ _
     rw[CR];refine Al (.slice (some ⟨(A_ y2).size,0,none⟩) N N) _ (λ _=>g3) ?_;clear Al;simp only[sA];refine sG 6 32 (λ K Al=>?_);go_simp;obtain⟨y4,FB,g4⟩:=zg y3 (.cells (madeCells #[B_ none 0 0] N) 26);have bU:Ao y4 (A_ y3).size 26 (madeCells #[B_ none 0 0] N):=by rw[<- FB];exact zv _ _ _
     rw[FB];refine Al (.slice (some ⟨(A_ y3).size,0,none⟩) N N) _ (λ _=>g4) ?_;clear Al;simp only[sA];refine pG 10 36 ?_;refine sG 11 37 (λ K Al=>?_);go_simp;have gb:Af y4 (y4.alloc (.cells #[i64 N,.slice A1 es.length c1,.slice A2 rk.length c2,.slice A3 ss.length c3,.slice (some ⟨(A_ y3).size,0,none⟩) N N,.slice (some ⟨(A_ y2).size,0,none⟩) N N] 119)):=(zr _ _).alloc _;refine Al (pt y4.heap.size) _ (λ _=>gb) ?_;clear Al;simp only[sA];refine pG 12 8 ?_;refine dG ?_;go_wp2_with fail;go_meet;refine⟨_,rfl,_,_,_,_,_,_,_,BC _ _ _ _ _ _ _ _ _ _ _ _ (by exact zv _ _ _) (Af.own gb (Af.own (((g2).trans g3).trans g4) CQ)) ((Cw.grew ((g3).trans g4)).grew gb) (Af.own gb (Af.own ((g3).trans g4) E9)) ((bU.grew ((zr (λ _=>False) _))).grew gb) ((bD.grew (g4)).grew gb) ?_ ?_ ?_ ?_ ?_ ?_ ?_,?_⟩;all_goals first
      | (exact(((gz.trans g1).trans g2).trans g3).trans g4 |>.trans gb)
      | (have z0:=gz.size;have z1:=g1.size;have z2:=g2.size;have z3:=g3.size;have z4:=g4.size;have q1:=bU.lt;have q2:=bD.lt;have zz:=gU.out;omega)
   ·skip;go_simp;obtain⟨y2,CN,g2⟩:=zg y1 (.cells (madeCells #[B_ none 0 0] N) 26);have bU:Ao y2 (A_ y1).size 26 (madeCells #[B_ none 0 0] N):=by rw[<- CN];exact zv _ _ _
    rw[CN];refine Al (.slice (some ⟨(A_ y1).size,0,none⟩) N N) _ (λ _=>g2) ?_;clear Al;simp only[sA];refine AO 3 29 9 35 rfl rfl (by kernel_rfl) rfl rfl (by rfl) (by rfl) (λ K Al=>?_) (λ K Al=>?_)
    ·skip;go_simp;refine(lv.out _ (((gz).trans g1).trans g2)).mono ?_;rintro e y3 ⟨v1,v2,rfl,Cw,E9,g3⟩;obtain⟨A2,c2,rfl⟩:=At Cw;obtain⟨A3,c3,rfl⟩:=At E9;show K _ _;refine Al (.agg #[.slice A2 rk.length c2,.slice A3 ss.length c3]) _ (λ _=>g3) ?_;clear Al;simp only[sA];refine sG 9 35 (λ K Al=>?_);go_simp;obtain⟨y4,FB,g4⟩:=zg y3 (.cells (madeCells #[B_ none 0 0] N) 26);have bD:Ao y4 (A_ y3).size 26 (madeCells #[B_ none 0 0] N):=by rw[<- FB];exact zv _ _ _
     rw[FB];refine Al (.slice (some ⟨(A_ y3).size,0,none⟩) N N) _ (λ _=>g4) ?_;clear Al;simp only[sA];refine pG 10 36 ?_;refine sG 11 37 (λ K Al=>?_);go_simp;have gb:Af y4 (y4.alloc (.cells #[i64 N,.slice A1 es.length c1,.slice A2 rk.length c2,.slice A3 ss.length c3,.slice (some ⟨(A_ y1).size,0,none⟩) N N,.slice (some ⟨(A_ y3).size,0,none⟩) N N] 119)):=(zr _ _).alloc _;refine Al (pt y4.heap.size) _ (λ _=>gb) ?_;clear Al;simp only[sA];refine pG 12 8 ?_;refine dG ?_;go_wp2_with fail;go_meet;refine⟨_,rfl,_,_,_,_,_,_,_,BC _ _ _ _ _ _ _ _ _ _ _ _ (by exact zv _ _ _) (Af.own gb (Af.own (((g2).trans g3).trans g4) CQ)) ((Cw.grew (g4)).grew gb) (Af.own gb (Af.own (g4) E9)) ((bU.grew ((g3).trans g4)).grew gb) ((bD.grew ((zr (λ _=>False) _))).grew gb) ?_ ?_ ?_ ?_ ?_ ?_ ?_,?_⟩;all_goals first
      | (exact(((gz.trans g1).trans g2).trans g3).trans g4 |>.trans gb)
      | (have z0:=gz.size;have z1:=g1.size;have z2:=g2.size;have z3:=g3.size;have z4:=g4.size;have q1:=bU.lt;have q2:=bD.lt;have zz:=gU.out;omega)
    ·skip;go_simp;obtain⟨y3,CR,g3⟩:=zg y2 (.cells (madeCells #[B_ none 0 0] N) 26);have bD:Ao y3 (A_ y2).size 26 (madeCells #[B_ none 0 0] N):=by rw[<- CR];exact zv _ _ _
     rw[CR];refine Al (.slice (some ⟨(A_ y2).size,0,none⟩) N N) _ (λ _=>g3) ?_;clear Al;simp only[sA];refine sG 3 29 (λ K Al=>?_);go_simp;refine(lv.out _ ((((gz).trans g1).trans g2).trans g3)).mono ?_;rintro e y4 ⟨v1,v2,rfl,Cw,E9,g4⟩;obtain⟨A2,c2,rfl⟩:=At Cw;obtain⟨A3,c3,rfl⟩:=At E9;show K _ _;refine Al (.agg #[.slice A2 rk.length c2,.slice A3 ss.length c3]) _ (λ _=>g4) ?_;clear Al;simp only[sA];refine pG 10 36 ?_;refine sG 11 37 (λ K Al=>?_);go_simp;have gb:Af y4 (y4.alloc (.cells #[i64 N,.slice A1 es.length c1,.slice A2 rk.length c2,.slice A3 ss.length c3,.slice (some ⟨(A_ y1).size,0,none⟩) N N,.slice (some ⟨(A_ y2).size,0,none⟩) N N] 119)):=(zr _ _).alloc _;refine Al (pt y4.heap.size) _ (λ _=>gb) ?_;clear Al;simp only[sA];refine pG 12 8 ?_;refine dG ?_;go_wp2_with fail;go_meet;refine⟨_,rfl,_,_,_,_,_,_,_,BC _ _ _ _ _ _ _ _ _ _ _ _ (by exact zv _ _ _) (Af.own gb (Af.own (((g2).trans g3).trans g4) CQ)) ((Cw.grew ((zr (λ _=>False) _))).grew gb) (Af.own gb (Af.own ((zr (λ _=>False) _)) E9)) ((bU.grew ((g3).trans g4)).grew gb) ((bD.grew (g4)).grew gb) ?_ ?_ ?_ ?_ ?_ ?_ ?_,?_⟩;all_goals first
      | (exact(((gz.trans g1).trans g2).trans g3).trans g4 |>.trans gb)
      | (have z0:=gz.size;have z1:=g1.size;have z2:=g2.size;have z3:=g3.size;have z4:=g4.size;have q1:=bU.lt;have q2:=bD.lt;have zz:=gU.out;omega)
   ·skip;go_simp;obtain⟨y2,CN,g2⟩:=zg y1 (.cells (madeCells #[B_ none 0 0] N) 26);have bD:Ao y2 (A_ y1).size 26 (madeCells #[B_ none 0 0] N):=by rw[<- CN];exact zv _ _ _
    rw[CN];refine Al (.slice (some ⟨(A_ y1).size,0,none⟩) N N) _ (λ _=>g2) ?_;clear Al;simp only[sA];refine AO 3 29 6 32 rfl rfl (by kernel_rfl) rfl rfl (by rfl) (by rfl) (λ K Al=>?_) (λ K Al=>?_)
    ·skip;go_simp;refine(lv.out _ (((gz).trans g1).trans g2)).mono ?_;rintro e y3 ⟨v1,v2,rfl,Cw,E9,g3⟩;obtain⟨A2,c2,rfl⟩:=At Cw;obtain⟨A3,c3,rfl⟩:=At E9;show K _ _;refine Al (.agg #[.slice A2 rk.length c2,.slice A3 ss.length c3]) _ (λ _=>g3) ?_;clear Al;simp only[sA];refine sG 6 32 (λ K Al=>?_);go_simp;obtain⟨y4,FB,g4⟩:=zg y3 (.cells (madeCells #[B_ none 0 0] N) 26);have bU:Ao y4 (A_ y3).size 26 (madeCells #[B_ none 0 0] N):=by rw[<- FB];exact zv _ _ _
     rw[FB];refine Al (.slice (some ⟨(A_ y3).size,0,none⟩) N N) _ (λ _=>g4) ?_;clear Al;simp only[sA];refine pG 10 36 ?_;refine sG 11 37 (λ K Al=>?_);go_simp;have gb:Af y4 (y4.alloc (.cells #[i64 N,.slice A1 es.length c1,.slice A2 rk.length c2,.slice A3 ss.length c3,.slice (some ⟨(A_ y3).size,0,none⟩) N N,.slice (some ⟨(A_ y1).size,0,none⟩) N N] 119)):=(zr _ _).alloc _;refine Al (pt y4.heap.size) _ (λ _=>gb) ?_;clear Al;simp only[sA];refine pG 12 8 ?_;refine dG ?_;go_wp2_with fail;go_meet;refine⟨_,rfl,_,_,_,_,_,_,_,BC _ _ _ _ _ _ _ _ _ _ _ _ (by exact zv _ _ _) (Af.own gb (Af.own (((g2).trans g3).trans g4) CQ)) ((Cw.grew (g4)).grew gb) (Af.own gb (Af.own (g4) E9)) ((bU.grew ((zr (λ _=>False) _))).grew gb) ((bD.grew ((g3).trans g4)).grew gb) ?_ ?_ ?_ ?_ ?_ ?_ ?_,?_⟩;all_goals first
      | (exact(((gz.trans g1).trans g2).trans g3).trans g4 |>.trans gb)
      | (have z0:=gz.size;have z1:=g1.size;have z2:=g2.size;have z3:=g3.size;have z4:=g4.size;have q1:=bU.lt;have q2:=bD.lt;have zz:=gU.out;omega)
    ·skip;go_simp;obtain⟨y3,CR,g3⟩:=zg y2 (.cells (madeCells #[B_ none 0 0] N) 26);have bU:Ao y3 (A_ y2).size 26 (madeCells #[B_ none 0 0] N):=by rw[<- CR];exact zv _ _ _
     rw[CR];refine Al (.slice (some ⟨(A_ y2).size,0,none⟩) N N) _ (λ _=>g3) ?_;clear Al;simp only[sA];refine sG 3 29 (λ K Al=>?_);go_simp;refine(lv.out _ ((((gz).trans g1).trans g2).trans g3)).mono ?_;rintro e y4 ⟨v1,v2,rfl,Cw,E9,g4⟩;obtain⟨A2,c2,rfl⟩:=At Cw;obtain⟨A3,c3,rfl⟩:=At E9;show K _ _;refine Al (.agg #[.slice A2 rk.length c2,.slice A3 ss.length c3]) _ (λ _=>g4) ?_;clear Al;simp only[sA];refine pG 10 36 ?_;refine sG 11 37 (λ K Al=>?_);go_simp;have gb:Af y4 (y4.alloc (.cells #[i64 N,.slice A1 es.length c1,.slice A2 rk.length c2,.slice A3 ss.length c3,.slice (some ⟨(A_ y2).size,0,none⟩) N N,.slice (some ⟨(A_ y1).size,0,none⟩) N N] 119)):=(zr _ _).alloc _;refine Al (pt y4.heap.size) _ (λ _=>gb) ?_;clear Al;simp only[sA];refine pG 12 8 ?_;refine dG ?_;go_wp2_with fail;go_meet;refine⟨_,rfl,_,_,_,_,_,_,_,BC _ _ _ _ _ _ _ _ _ _ _ _ (by exact zv _ _ _) (Af.own gb (Af.own (((g2).trans g3).trans g4) CQ)) ((Cw.grew ((zr (λ _=>False) _))).grew gb) (Af.own gb (Af.own ((zr (λ _=>False) _)) E9)) ((bU.grew (g4)).grew gb) ((bD.grew ((g3).trans g4)).grew gb) ?_ ?_ ?_ ?_ ?_ ?_ ?_,?_⟩;all_goals first
      | (exact(((gz.trans g1).trans g2).trans g3).trans g4 |>.trans gb)
      | (have z0:=gz.size;have z1:=g1.size;have z2:=g2.size;have z3:=g3.size;have z4:=g4.size;have q1:=bU.lt;have q2:=bD.lt;have zz:=gU.out;omega)
  ·skip;go_simp;obtain⟨y1,Br,g1⟩:=zg y0 (.cells (madeCells #[B_ none 0 0] N) 26);have bU:Ao y1 (A_ y0).size 26 (madeCells #[B_ none 0 0] N):=by rw[<- Br];exact zv _ _ _
   rw[Br];refine Al (.slice (some ⟨(A_ y0).size,0,none⟩) N N) _ (λ _=>g1) ?_;clear Al;simp only[sA];refine AO 1 27 9 35 rfl rfl (by kernel_rfl) rfl rfl (by rfl) (by rfl) (λ K Al=>?_) (λ K Al=>?_)
   ·skip;go_simp;refine(zT.out _ ((gz).trans g1)).mono ?_;rintro e y2 ⟨e1,rfl,CQ,g2⟩;obtain⟨A1,c1,rfl⟩:=At CQ;show K _ _;refine Al (.agg #[i64 N,.slice A1 es.length c1]) _ (λ _=>g2) ?_;clear Al;simp only[sA];refine AO 3 29 9 35 rfl rfl (by kernel_rfl) rfl rfl (by rfl) (by rfl) (λ K Al=>?_) (λ K Al=>?_)
    ·skip;go_simp;refine(lv.out _ (((gz).trans g1).trans g2)).mono ?_;rintro e y3 ⟨v1,v2,rfl,Cw,E9,g3⟩;obtain⟨A2,c2,rfl⟩:=At Cw;obtain⟨A3,c3,rfl⟩:=At E9;show K _ _;refine Al (.agg #[.slice A2 rk.length c2,.slice A3 ss.length c3]) _ (λ _=>g3) ?_;clear Al;simp only[sA];refine sG 9 35 (λ K Al=>?_);go_simp;obtain⟨y4,FB,g4⟩:=zg y3 (.cells (madeCells #[B_ none 0 0] N) 26);have bD:Ao y4 (A_ y3).size 26 (madeCells #[B_ none 0 0] N):=by rw[<- FB];exact zv _ _ _
     rw[FB];refine Al (.slice (some ⟨(A_ y3).size,0,none⟩) N N) _ (λ _=>g4) ?_;clear Al;simp only[sA];refine pG 10 36 ?_;refine sG 11 37 (λ K Al=>?_);go_simp;have gb:Af y4 (y4.alloc (.cells #[i64 N,.slice A1 es.length c1,.slice A2 rk.length c2,.slice A3 ss.length c3,.slice (some ⟨(A_ y0).size,0,none⟩) N N,.slice (some ⟨(A_ y3).size,0,none⟩) N N] 119)):=(zr _ _).alloc _;refine Al (pt y4.heap.size) _ (λ _=>gb) ?_;clear Al;simp only[sA];refine pG 12 8 ?_;refine dG ?_;go_wp2_with fail;go_meet;refine⟨_,rfl,_,_,_,_,_,_,_,BC _ _ _ _ _ _ _ _ _ _ _ _ (by exact zv _ _ _) (Af.own gb (Af.own ((g3).trans g4) CQ)) ((Cw.grew (g4)).grew gb) (Af.own gb (Af.own (g4) E9)) ((bU.grew (((g2).trans g3).trans g4)).grew gb) ((bD.grew ((zr (λ _=>False) _))).grew gb) ?_ ?_ ?_ ?_ ?_ ?_ ?_,?_⟩;all_goals first
      | (exact(((gz.trans g1).trans g2).trans g3).trans g4 |>.trans gb)
      | (have z0:=gz.size;have z1:=g1.size;have z2:=g2.size;have z3:=g3.size;have z4:=g4.size;have q1:=bU.lt;have q2:=bD.lt;have zz:=gU.out;omega)
    ·skip;go_simp;obtain⟨y3,CR,g3⟩:=zg y2 (.cells (madeCells #[B_ none 0 0] N) 26);have bD:Ao y3 (A_ y2).size 26 (madeCells #[B_ none 0 0] N):=by rw[<- CR];exact zv _ _ _
     rw[CR];refine Al (.slice (some ⟨(A_ y2).size,0,none⟩) N N) _ (λ _=>g3) ?_;clear Al;simp only[sA];refine sG 3 29 (λ K Al=>?_);go_simp;refine(lv.out _ ((((gz).trans g1).trans g2).trans g3)).mono ?_;rintro e y4 ⟨v1,v2,rfl,Cw,E9,g4⟩;obtain⟨A2,c2,rfl⟩:=At Cw;obtain⟨A3,c3,rfl⟩:=At E9;show K _ _;refine Al (.agg #[.slice A2 rk.length c2,.slice A3 ss.length c3]) _ (λ _=>g4) ?_;clear Al;simp only[sA];refine pG 10 36 ?_;refine sG 11 37 (λ K Al=>?_);go_simp;have gb:Af y4 (y4.alloc (.cells #[i64 N,.slice A1 es.length c1,.slice A2 rk.length c2,.slice A3 ss.length c3,.slice (some ⟨(A_ y0).size,0,none⟩) N N,.slice (some ⟨(A_ y2).size,0,none⟩) N N] 119)):=(zr _ _).alloc _;refine Al (pt y4.heap.size) _ (λ _=>gb) ?_;clear Al;simp only[sA];refine pG 12 8 ?_;refine dG ?_;go_wp2_with fail;go_meet;refine⟨_,rfl,_,_,_,_,_,_,_,BC _ _ _ _ _ _ _ _ _ _ _ _ (by exact zv _ _ _) (Af.own gb (Af.own ((g3).trans g4) CQ)) ((Cw.grew ((zr (λ _=>False) _))).grew gb) (Af.own gb (Af.own ((zr (λ _=>False) _)) E9)) ((bU.grew (((g2).trans g3).trans g4)).grew gb) ((bD.grew (g4)).grew gb) ?_ ?_ ?_ ?_ ?_ ?_ ?_,?_⟩;all_goals first
      | (exact(((gz.trans g1).trans g2).trans g3).trans g4 |>.trans gb)
      | (have z0:=gz.size;have z1:=g1.size;have z2:=g2.size;have z3:=g3.size;have z4:=g4.size;have q1:=bU.lt;have q2:=bD.lt;have zz:=gU.out;omega)
   ·skip;go_simp;obtain⟨y2,CN,g2⟩:=zg y1 (.cells (madeCells #[B_ none 0 0] N) 26);have bD:Ao y2 (A_ y1).size 26 (madeCells #[B_ none 0 0] N):=by rw[<- CN];exact zv _ _ _
    rw[CN];refine Al (.slice (some ⟨(A_ y1).size,0,none⟩) N N) _ (λ _=>g2) ?_;clear Al;simp only[sA];refine sG 1 27 (λ K Al=>?_);go_simp;refine(zT.out _ (((gz).trans g1).trans g2)).mono ?_;rintro e y3 ⟨e1,rfl,CQ,g3⟩;obtain⟨A1,c1,rfl⟩:=At CQ;show K _ _;refine Al (.agg #[i64 N,.slice A1 es.length c1]) _ (λ _=>g3) ?_;clear Al;simp only[sA];refine sG 3 29 (λ K Al=>?_);go_simp;refine(lv.out _ ((((gz).trans g1).trans g2).trans g3)).mono ?_;rintro e y4 ⟨v1,v2,rfl,Cw,E9,g4⟩;obtain⟨A2,c2,rfl⟩:=At Cw;obtain⟨A3,c3,rfl⟩:=At E9;show K _ _;refine Al (.agg #[.slice A2 rk.length c2,.slice A3 ss.length c3]) _ (λ _=>g4) ?_;clear Al;simp only[sA];refine pG 10 36 ?_;refine sG 11 37 (λ K Al=>?_);go_simp;have gb:Af y4 (y4.alloc (.cells #[i64 N,.slice A1 es.length c1,.slice A2 rk.length c2,.slice A3 ss.length c3,.slice (some ⟨(A_ y0).size,0,none⟩) N N,.slice (some ⟨(A_ y1).size,0,none⟩) N N] 119)):=(zr _ _).alloc _;refine Al (pt y4.heap.size) _ (λ _=>gb) ?_;clear Al;simp only[sA];refine pG 12 8 ?_;refine dG ?_;go_wp2_with fail;go_meet;refine⟨_,rfl,_,_,_,_,_,_,_,BC _ _ _ _ _ _ _ _ _ _ _ _ (by exact zv _ _ _) (Af.own gb (Af.own (g4) CQ)) ((Cw.grew ((zr (λ _=>False) _))).grew gb) (Af.own gb (Af.own ((zr (λ _=>False) _)) E9)) ((bU.grew (((g2).trans g3).trans g4)).grew gb) ((bD.grew ((g3).trans g4)).grew gb) ?_ ?_ ?_ ?_ ?_ ?_ ?_,?_⟩;all_goals first
     | (exact(((gz.trans g1).trans g2).trans g3).trans g4 |>.trans gb)
     | (have z0:=gz.size;have z1:=g1.size;have z2:=g2.size;have z3:=g3.size;have z4:=g4.size;have q1:=bU.lt;have q2:=bD.lt;have zz:=gU.out;omega)
  ·skip;go_simp;obtain⟨y1,Br,g1⟩:=zg y0 (.cells (madeCells #[B_ none 0 0] N) 26);have bD:Ao y1 (A_ y0).size 26 (madeCells #[B_ none 0 0] N):=by rw[<- Br];exact zv _ _ _
   rw[Br];refine Al (.slice (some ⟨(A_ y0).size,0,none⟩) N N) _ (λ _=>g1) ?_;clear Al;simp only[sA];refine AO 1 27 6 32 rfl rfl (by kernel_rfl) rfl rfl (by rfl) (by rfl) (λ K Al=>?_) (λ K Al=>?_)
   ·skip;go_simp;refine(zT.out _ ((gz).trans g1)).mono ?_;rintro e y2 ⟨e1,rfl,CQ,g2⟩;obtain⟨A1,c1,rfl⟩:=At CQ;show K _ _;refine Al (.agg #[i64 N,.slice A1 es.length c1]) _ (λ _=>g2) ?_;clear Al;simp only[sA];refine AO 3 29 6 32 rfl rfl (by kernel_rfl) rfl rfl (by rfl) (by rfl) (λ K Al=>?_) (λ K Al=>?_)
    ·skip;go_simp;refine(lv.out _ (((gz).trans g1).trans g2)).mono ?_;rintro e y3 ⟨v1,v2,rfl,Cw,E9,g3⟩;obtain⟨A2,c2,rfl⟩:=At Cw;obtain⟨A3,c3,rfl⟩:=At E9;show K _ _;refine Al (.agg #[.slice A2 rk.length c2,.slice A3 ss.length c3]) _ (λ _=>g3) ?_;clear Al;simp only[sA];refine sG 6 32 (λ K Al=>?_);go_simp;obtain⟨y4,FB,g4⟩:=zg y3 (.cells (madeCells #[B_ none 0 0] N) 26);have bU:Ao y4 (A_ y3).size 26 (madeCells #[B_ none 0 0] N):=by rw[<- FB];exact zv _ _ _
     rw[FB];refine Al (.slice (some ⟨(A_ y3).size,0,none⟩) N N) _ (λ _=>g4) ?_;clear Al;simp only[sA];refine pG 10 36 ?_;refine sG 11 37 (λ K Al=>?_);go_simp;have gb:Af y4 (y4.alloc (.cells #[i64 N,.slice A1 es.length c1,.slice A2 rk.length c2,.slice A3 ss.length c3,.slice (some ⟨(A_ y3).size,0,none⟩) N N,.slice (some ⟨(A_ y0).size,0,none⟩) N N] 119)):=(zr _ _).alloc _;refine Al (pt y4.heap.size) _ (λ _=>gb) ?_;clear Al;simp only[sA];refine pG 12 8 ?_;refine dG ?_;go_wp2_with fail;go_meet;refine⟨_,rfl,_,_,_,_,_,_,_,BC _ _ _ _ _ _ _ _ _ _ _ _ (by exact zv _ _ _) (Af.own gb (Af.own ((g3).trans g4) CQ)) ((Cw.grew (g4)).grew gb) (Af.own gb (Af.own (g4) E9)) ((bU.grew ((zr (λ _=>False) _))).grew gb) ((bD.grew (((g2).trans g3).trans g4)).grew gb) ?_ ?_ ?_ ?_ ?_ ?_ ?_,?_⟩;all_goals first
      | (exact(((gz.trans g1).trans g2).trans g3).trans g4 |>.trans gb)
      | (have z0:=gz.size;have z1:=g1.size;have z2:=g2.size;have z3:=g3.size;have z4:=g4.size;have q1:=bU.lt;have q2:=bD.lt;have zz:=gU.out;omega)
    ·skip;go_simp;obtain⟨y3,CR,g3⟩:=zg y2 (.cells (madeCells #[B_ none 0 0] N) 26);have bU:Ao y3 (A_ y2).size 26 (madeCells #[B_ none 0 0] N):=by rw[<- CR];exact zv _ _ _
     rw[CR];refine Al (.slice (some ⟨(A_ y2).size,0,none⟩) N N) _ (λ _=>g3) ?_;clear Al;simp only[sA];refine sG 3 29 (λ K Al=>?_);go_simp;refine(lv.out _ ((((gz).trans g1).trans g2).trans g3)).mono ?_;rintro e y4 ⟨v1,v2,rfl,Cw,E9,g4⟩;obtain⟨A2,c2,rfl⟩:=At Cw;obtain⟨A3,c3,rfl⟩:=At E9;show K _ _;refine Al (.agg #[.slice A2 rk.length c2,.slice A3 ss.length c3]) _ (λ _=>g4) ?_;clear Al;simp only[sA];refine pG 10 36 ?_;refine sG 11 37 (λ K Al=>?_);go_simp;have gb:Af y4 (y4.alloc (.cells #[i64 N,.slice A1 es.length c1,.slice A2 rk.length c2,.slice A3 ss.length c3,.slice (some ⟨(A_ y2).size,0,none⟩) N N,.slice (some ⟨(A_ y0).size,0,none⟩) N N] 119)):=(zr _ _).alloc _;refine Al (pt y4.heap.size) _ (λ _=>gb) ?_;clear Al;simp only[sA];refine pG 12 8 ?_;refine dG ?_;go_wp2_with fail;go_meet;refine⟨_,rfl,_,_,_,_,_,_,_,BC _ _ _ _ _ _ _ _ _ _ _ _ (by exact zv _ _ _) (Af.own gb (Af.own ((g3).trans g4) CQ)) ((Cw.grew ((zr (λ _=>False) _))).grew gb) (Af.own gb (Af.own ((zr (λ _=>False) _)) E9)) ((bU.grew (g4)).grew gb) ((bD.grew (((g2).trans g3).trans g4)).grew gb) ?_ ?_ ?_ ?_ ?_ ?_ ?_,?_⟩;all_goals first
      | (exact(((gz.trans g1).trans g2).trans g3).trans g4 |>.trans gb)
      | (have z0:=gz.size;have z1:=g1.size;have z2:=g2.size;have z3:=g3.size;have z4:=g4.size;have q1:=bU.lt;have q2:=bD.lt;have zz:=gU.out;omega)
   ·skip;go_simp;obtain⟨y2,CN,g2⟩:=zg y1 (.cells (madeCells #[B_ none 0 0] N) 26);have bU:Ao y2 (A_ y1).size 26 (madeCells #[B_ none 0 0] N):=by rw[<- CN];exact zv _ _ _
    rw[CN];refine Al (.slice (some ⟨(A_ y1).size,0,none⟩) N N) _ (λ _=>g2) ?_;clear Al;simp only[sA];refine sG 1 27 (λ K Al=>?_);go_simp;refine(zT.out _ (((gz).trans g1).trans g2)).mono ?_;rintro e y3 ⟨e1,rfl,CQ,g3⟩;obtain⟨A1,c1,rfl⟩:=At CQ;show K _ _;refine Al (.agg #[i64 N,.slice A1 es.length c1]) _ (λ _=>g3) ?_;clear Al;simp only[sA];refine sG 3 29 (λ K Al=>?_);go_simp;refine(lv.out _ ((((gz).trans g1).trans g2).trans g3)).mono ?_;rintro e y4 ⟨v1,v2,rfl,Cw,E9,g4⟩;obtain⟨A2,c2,rfl⟩:=At Cw;obtain⟨A3,c3,rfl⟩:=At E9;show K _ _;refine Al (.agg #[.slice A2 rk.length c2,.slice A3 ss.length c3]) _ (λ _=>g4) ?_;clear Al;simp only[sA];refine pG 10 36 ?_;refine sG 11 37 (λ K Al=>?_);go_simp;have gb:Af y4 (y4.alloc (.cells #[i64 N,.slice A1 es.length c1,.slice A2 rk.length c2,.slice A3 ss.length c3,.slice (some ⟨(A_ y1).size,0,none⟩) N N,.slice (some ⟨(A_ y0).size,0,none⟩) N N] 119)):=(zr _ _).alloc _;refine Al (pt y4.heap.size) _ (λ _=>gb) ?_;clear Al;simp only[sA];refine pG 12 8 ?_;refine dG ?_;go_wp2_with fail;go_meet;refine⟨_,rfl,_,_,_,_,_,_,_,BC _ _ _ _ _ _ _ _ _ _ _ _ (by exact zv _ _ _) (Af.own gb (Af.own (g4) CQ)) ((Cw.grew ((zr (λ _=>False) _))).grew gb) (Af.own gb (Af.own ((zr (λ _=>False) _)) E9)) ((bU.grew ((g3).trans g4)).grew gb) ((bD.grew (((g2).trans g3).trans g4)).grew gb) ?_ ?_ ?_ ?_ ?_ ?_ ?_,?_⟩;all_goals first
     | (exact(((gz.trans g1).trans g2).trans g3).trans g4 |>.trans gb)
     | (have z0:=gz.size;have z1:=g1.size;have z2:=g2.size;have z3:=g3.size;have z4:=g4.size;have q1:=bU.lt;have q2:=bD.lt;have zz:=gU.out;omega)
 case rest =>
  obtain⟨H,rfl,v1,v2,v3,U,D,us0,ds0,hH,gH⟩:=hcut;obtain⟨q0,q1,q2,q3⟩:=HC.out wc gH;have HW:=zh (λ (w':F_) (k:Af w5 w')=>HC.out w' k);have HA:=BO hH gH;have HIN:=zh (pn HH.out.1 H0.out.2.2.2.2);obtain⟨ii,hii,tg,th,ti⟩:=info_parts info_int;clear zT lv HC gz hH gH bz;go_wp2_with fail;clear q0 q1 q2 q3;go_loopw [41] (λ i wr=>∃ (k:Nat) (us ds:List G_),k<=ss.length/\i=.int .i64 k/\Hid (Cg wr H w5.heap.size N es rk ss k v1 v2 v3 U D us ds/\Af w5 wr)) (λ i _=>ss.length-(intOf i).toNat)
  case atStart=>exact⟨0,_,_,by omega,rfl,HA⟩
  case round =>
   clear HA;obtain⟨k,us,ds,hk,rfl,hS⟩:=hrel;obtain⟨q0,q1,q2,q3⟩:=HW.out wr hS.out.2;by_cases AI:k<ss.length
   ·have J9:(k:Int)<(ss.length:Int):=(by omega);have Fz:(0:Int)<=(k:Int):=(by omega);obtain⟨s,hs⟩:∃ x,ss[k]? = some x:=⟨_,zq AI⟩;obtain⟨b,off,hA,hb,e0,e1,e2,e3,e4,e5⟩:=(EU.kept H0.out.2.2.2.1 (G5.out.trans hS.out.2) (λ _ _ h=>h)) k s hs;subst hA;have BE:=HIN.out s (zm hs);obtain⟨p,hp⟩:∃ z:Nat,s.from'=(z:Int):=⟨s.from'.toNat,by unfold inN at BE;omega⟩;obtain⟨q,hq⟩:∃ z:Nat,s.to'=(z:Int):=⟨s.to'.toNat,by unfold inN at BE;omega⟩;rw[hp]at e0;rw[hq]at e1;have rF:p<N:=by unfold inN at BE;omega
    have hqN:q<N:=by unfold inN at BE;omega
    have oJ:rk.length=N:=by have:=H0.out.2.2.2.2.1;omega
    obtain⟨x,hx⟩:=zx (l:=rk) (i:=p) (by omega);obtain⟨y,hy⟩:=zx (l:=rk) (i:=q) (by omega);obtain⟨c0,cc,cs0,n0,bp⟩:∃ c0 cc cs0 n0,(c0,cc,cs0,n0)=(0,0,0,0):=⟨_,_,_,_,rfl⟩;obtain⟨wa,rI,ga,bA⟩:=zb wr #[i64 p,i64 q,.int .u64 s.w,i64 s.edge,i64 s.a,i64 s.b] 150 rfl;have a0:=bA.cell 0;have a1:=bA.cell 1;simp at a0 a1;have lB:=hS.out.1.kept ga (λ _ _ h=>h);have h4:=lB.blk.cell 4;have h5:=lB.blk.cell 5;simp at h4 h5;have x1:=hx;obtain⟨b1,o1,rn,Fv,r0⟩:=(H0.out.2.2.1.grew ((G5.out.trans hS.out.2).trans ga)) p x hx;obtain⟨b2,o2,bl,Gq,r1⟩:=(H0.out.2.2.1.grew ((G5.out.trans hS.out.2).trans ga)) q y hy;subst rn;obtain⟨rfl,rfl⟩:b1=b2/\o1=o2:=(by simpa using bl);obtain⟨p0,p1,p2,p3⟩:=HW.out wa (hS.out.2.trans ga);have vJ:(0:Int)<=(p:Int):=(by omega);have FA:(p:Int)<(rk.length:Int):=(by omega);have hq0:(0:Int)<=(q:Int):=(by omega);have bI:(q:Int)<(rk.length:Int):=(by omega);have Lj:(p:Int)<(N:Int):=(by omega);have fy:(q:Int)<(N:Int):=(by omega);have hsl:ss.length<=100000:=HH.out.2.2.2;clear bl bA bp oJ;by_cases NS:y<x
    ·go_upto_region 10 with fail;obtain⟨vv,hv⟩:=zx (l:=ds) (i:=q) (by have:=hS.out.1.dl;omega);have ho:=lB.dr q vv hv;obtain⟨n,hn⟩:=zn ((bj rk ss k q).length);have hnk:n<=k:=by rw[<- hn];exact eX _ _ _ _
     obtain⟨Av,cv,rfl⟩:=At ho;have hcv:=fW ho;rw[hn]at ho hv hcv;have u0:=lB.db.cell q;rw[J_,hv]at u0;have u1:=lB.db.frozen q;have hcv':(n:Int)<=(cv:Int):=(by omega);have hn0:(0:Int)<=(n:Int):=(by omega);have fA:Hid (bK rk s=false):=by
      show _=_
      unfold bK
      rw[hp,hq,I_,I_,Ph,Ph,hx,hy]
      simp only[Option.getD_some]
      simp[NS]
     have HO:=Lc ho hn lB hs hq (hS.out.2.trans ga);clear ho hn lB hv hS hp hq hx hy hs ga rI x1;go_quiet (fail);obtain⟨nq1,ou⟩:=zn (nq);rw[ou];clear ou nq;go_upto_region 11 with fail;go_quiet (fail);obtain⟨nq2,ox⟩:=zn (nq);rw[ox];clear ox nq;go_upto_region 12 with fail;go_quiet (fail);obtain⟨nq3,hnq3⟩:=zn (nq);rw[hnq3];clear hnq3 nq;obtain⟨wq,yL⟩:=zn (((wa.drewN nq1).drewN nq2).drewN nq3);have gq:Af wa wq:=by rw[<- yL];exact(((zr _ _).drewN _).drewN _).drewN _
     rw[yL];clear yL;obtain⟨wb,oP,gb,bb⟩:=zb wq #[.int .i64 k] 3 rfl;have gab:=gq.trans gb;have z0:wq.cell? ⟨D,q,none⟩=some (.slice Av n cv):=ze gq u0;have HB:=BO gab bb;clear gab bb gb gq;go_wp2_with (first
      | (at_builtin
         refine Ek rfl (.tmp 82) (.tmp 84) (by rfl) w5.heap.size Av n cv _ HO.out.2.1 (HO.out.1.grew HB.out.1) ⟨wq.heap.size,0,none⟩ (k:Int) (HB.out.2.cell 0) (by have:=HH.out.2.2.2;omega) (by rfl) (by rfl) ?_
         intro v9 w9 oy g9
         obtain⟨A9,c9,tC⟩:=At oy
         obtain⟨m9,hm9⟩:=zn ((bj rk ss k q++[(k:Int)]).length)
         rw[hm9]at tC
         subst tC
         clear hm9
         have iW:=HO.out.2.2.1.kept (HB.out.1.trans g9) (λ _ _ h=>h)
         have t0:=(iW.db.cell q)
         have t1:=(iW.db.frozen q)
         rw[J_]at t0
         obtain⟨vv',hv'⟩:∃ v,ds[q]? = some v:=⟨_,zq (by have:=iW.dl;omega)⟩
         rw[hv']at t0
         have BY:Hid (Cg (w9.setCell ⟨D,q,none⟩ (.slice A9 m9 c9)) H w5.heap.size N es rk ss (k+1) v1 v2 v3 U D us (ds.set q (.slice A9 m9 c9))/\Af w5 (w9.setCell ⟨D,q,none⟩ (.slice A9 m9 c9))) :=
          ⟨iW.toDn HO.out.2.2.2.1 hqN HO.out.2.2.2.2.1 fA.out (AD oy (Pg HO.out.2.2.2.2.2.size HB.out.1.size)),((HO.out.2.2.2.2.2.trans HB.out.1).trans g9).setCell (.inr iW.base.2.2) _⟩
         clear iW oy g9))
     go_wp2_with fail;go_roundw
     case rel=>first | exact⟨k+1,us,ds.set q (.slice A9 m9 c9),by omega,by go_num,BY⟩ | ((repeat apply Exists.intro);exact⟨⟨k+1,us,ds.set q (.slice A9 m9 c9),by omega,by go_num,BY⟩,rfl⟩)
     case measure=>simp[intOf];omega
    ·go_upto_region 10 with fail;obtain⟨vv,hv⟩:=zx (l:=us) (i:=p) (by have:=hS.out.1.ul;omega);have ho:=lB.ur p vv hv;obtain⟨n,hn⟩:=zn ((bL rk ss k p).length);have hnk:n<=k:=by rw[<- hn];exact gJ _ _ _ _
     obtain⟨Av,cv,rfl⟩:=At ho;have hcv:=fW ho;rw[hn]at ho hv hcv;have u0:=lB.ub.cell p;rw[J_,hv]at u0;have u1:=lB.ub.frozen p;have hcv':(n:Int)<=(cv:Int):=(by omega);have hn0:(0:Int)<=(n:Int):=(by omega);have fA:Hid (bK rk s=true):=by
      show _=_
      unfold bK
      rw[hp,hq,I_,I_,Ph,Ph,hx,hy]
      simp only[Option.getD_some]
      simp[NS]
     have HO:=Lc ho hn lB hs hp (hS.out.2.trans ga);clear ho hn lB hv hS hp hq hx hy hs ga rI x1;go_quiet (fail);obtain⟨nq1,ou⟩:=zn (nq);rw[ou];clear ou nq;go_upto_region 11 with fail;go_quiet (fail);obtain⟨nq2,ox⟩:=zn (nq);rw[ox];clear ox nq;skip;obtain⟨wq,yL⟩:=zn ((wa.drewN nq1).drewN nq2);have gq:Af wa wq:=by rw[<- yL];exact((zr _ _).drewN _).drewN _
     rw[yL];clear yL;obtain⟨wb,oP,gb,bb⟩:=zb wq #[.int .i64 k] 3 rfl;have gab:=gq.trans gb;have z0:wq.cell? ⟨U,p,none⟩=some (.slice Av n cv):=ze gq u0;have HB:=BO gab bb;clear gab bb gb gq;go_wp2_with (first
      | (at_builtin
         refine Ek rfl (.tmp 82) (.tmp 84) (by rfl) w5.heap.size Av n cv _ HO.out.2.1 (HO.out.1.grew HB.out.1) ⟨wq.heap.size,0,none⟩ (k:Int) (HB.out.2.cell 0) (by have:=HH.out.2.2.2;omega) (by rfl) (by rfl) ?_
         intro v9 w9 oy g9
         obtain⟨A9,c9,tC⟩:=At oy
         obtain⟨m9,hm9⟩:=zn ((bL rk ss k p++[(k:Int)]).length)
         rw[hm9]at tC
         subst tC
         clear hm9
         have iW:=HO.out.2.2.1.kept (HB.out.1.trans g9) (λ _ _ h=>h)
         have t0:=(iW.ub.cell p)
         have t1:=(iW.ub.frozen p)
         rw[J_]at t0
         obtain⟨vv',hv'⟩:∃ v,us[p]? = some v:=⟨_,zq (by have:=iW.ul;omega)⟩
         rw[hv']at t0
         have BY:Hid (Cg (w9.setCell ⟨U,p,none⟩ (.slice A9 m9 c9)) H w5.heap.size N es rk ss (k+1) v1 v2 v3 U D (us.set p (.slice A9 m9 c9)) ds/\Af w5 (w9.setCell ⟨U,p,none⟩ (.slice A9 m9 c9))) :=
          ⟨iW.toUp HO.out.2.2.2.1 rF HO.out.2.2.2.2.1 fA.out (AD oy (Pg HO.out.2.2.2.2.2.size HB.out.1.size)),((HO.out.2.2.2.2.2.trans HB.out.1).trans g9).setCell (.inr iW.base.2.1) _⟩
         clear iW oy g9))
     go_wp2_with fail;go_roundw
     case rel=>first | exact⟨k+1,us.set p (.slice A9 m9 c9),ds,by omega,by go_num,BY⟩ | ((repeat apply Exists.intro);exact⟨⟨k+1,us.set p (.slice A9 m9 c9),ds,by omega,by go_num,BY⟩,rfl⟩)
     case measure=>simp[intOf];omega
   ·obtain rfl:k=ss.length:=(by omega);have HF:Hid (Cf wr H w.heap.size N es rk ss/\Af w wr):=⟨by
     obtain⟨h,g⟩:=hS.out
     have hb:=gU.out
     exact⟨v1,v2,v3,U,D,us,ds,{ h with edg:=AD h.edg (by omega),rank:=AD h.rank (by omega),cuts:=AD h.cuts (by omega),ur:=λ u v hv=>AD (h.ur u v hv) (by omega),dr:=λ u v hv=>AD (h.dr u v hv) (by omega),base:=⟨by have:=h.base.1;omega,by have:=h.base.2.1;omega,by have:=h.base.2.2;omega⟩ }⟩,(H0.out.1.trans G5.out).trans hS.out.2⟩
    clear hS;go_wp2_with fail;go_ret2;exact⟨_,rfl,HF.out⟩
theorem Cf.down {w:F_} {H B B' N:Nat} {es:List AJ} {rk:List Int} {ss:List Sc} (h:Cf w H B N es rk ss) (hb:B'<=B):Cf w H B' N es rk ss:=by
 obtain⟨v1,v2,v3,U,D,us,ds,h⟩:=h;exact⟨v1,v2,v3,U,D,us,ds,{ h with edg:=AD h.edg hb,rank:=AD h.rank hb,cuts:=AD h.cuts hb,ur:=λ u v hv=>AD (h.ur u v hv) hb,dr:=λ u v hv=>AD (h.dr u v hv) hb,base:=⟨Pg hb h.base.1,Pg hb h.base.2.1,Pg hb h.base.2.2⟩ }⟩
theorem J3 (A Rk:Option Addr) (c N cr:Nat) (es:List AJ) (rk:List Int) (Ah Ac:Int) (w:F_) (h:Bo w A es) (hr:Au N es=0) (hl:es.length<=800) (hN:N<=12) (hR:RowI w Rk rk) (Be:Bu rk) (hlen:rk=[]\/rk.length=N) (h1:1<=Ah/\Ah<=1000) (h2:1<=Ac/\Ac<=1000) :
  H_ D_ 137 #[.agg #[i64 N,.slice A es.length c],.agg #[i64 Ah,i64 Ac,.slice Rk rk.length cr]] w λ e w'=>∃ H rk' ss out,e=.returned (.tuple #[pt H,i64 0])/\Cf w' H w.heap.size N es rk' ss/\bV N es rk' ss out/\(rk=rk'\/rk=[])/\Af w w':=by
 have bN:Ao (w.alloc (.cells #[i64 N,.slice A es.length c] 24)) w.heap.size 24 #[i64 N,.slice A es.length c]:=zv _ _ _
 obtain⟨w1,AT,g1⟩:=zg w (.cells #[i64 N,.slice A es.length c] 24)
 have s1:w1.heap.size=w.heap.size+1:=by rw[<- AT];simp
 rw[AT]at bN
 have bO:Ao (w1.alloc (.cells #[i64 Ah,i64 Ac,.slice Rk rk.length cr] 70)) w1.heap.size 70 #[i64 Ah,i64 Ac,.slice Rk rk.length cr]:=zv _ _ _
 have g12:Af w1 (w1.alloc (.cells #[i64 Ah,i64 Ac,.slice Rk rk.length cr] 70)):=(zr _ _).alloc _
 obtain⟨w2,Cc⟩:=zn (w1.alloc (.cells #[i64 Ah,i64 Ac,.slice Rk rk.length cr] 70))
 rw[Cc]at bO g12
 have g2:=g1.trans g12
 have HB:=zh (iy A Rk c N cr es rk Ah Ac w2 (h.grew g2) hr hl hN (hR.grew g2) Be hlen h1 h2)
 have H0:=Lc g2 h hr hl (bN.grew g12) g2.size
 have x0:=(bN.grew g12).cell 0
 have x1:=(bN.grew g12).cell 1
 have y0:=bO.cell 0
 have y1:=bO.cell 1
 have y2:=bO.cell 2
 simp at x0 x1 y0 y1 y2
 clear bN bO g1 g12 g2 s1 h hr hl hR Be hlen h1 h2
 go_enter Tryz.func137,Tryz.ntmps137
 go_wp2_with fail
 refine HB.out.mono ?_
 rintro e w3 ⟨rv,cv,rk',ss,out,rfl,CQ,Cw,Kb,JA,g3⟩
 obtain⟨A1,c1,rfl,NQ⟩:=CQ.row
 obtain⟨A2,c2,rfl,L8,MV⟩:=Cw.row
 obtain⟨n1,EG⟩:=zn (rk'.length)
 obtain⟨n2,Hs⟩:=zn (ss.length)
 obtain⟨w4,Dn,g4,b4⟩:=zb w3 #[.slice A1 n1 c1,.slice A2 n2 c2] 87 rfl
 obtain⟨gg,C9⟩:=Kb.st
 have lL:=C9.lenS hN H0.out.2.2.2.1
 have HN:=zh (ot A A1 A2 c N c1 c2 es rk' ss w4 ((H0.out.2.1.grew H0.out.1).grew (g3.trans g4)) (NQ.grew g4) (L8.kept g4 (λ _ _ h=>h)) (by have:=H0.out.2.2.2.1;omega) (by rw[Kb.rlen];omega) (by omega) MV H0.out.2.2.1 (Kb.made (by omega)) (by omega))
 rw[EG,Hs]at HN ⊢
 have HE:=Em Kb JA ((H0.out.1.trans g3).trans g4) (Pg H0.out.2.2.2.2.2 (g3.trans g4).size)
 have x0:=(H0.out.2.2.2.2.1.grew (g3.trans g4)).cell 0
 have x1:=(H0.out.2.2.2.2.1.grew (g3.trans g4)).cell 1
 have z0:=b4.cell 0
 have z1:=b4.cell 1
 simp at x0 x1 z0 z1
 clear HB CQ Cw Kb JA g3 g4 b4 NQ L8 MV EG Hs C9 lL H0
 go_wp2_with fail
 refine HN.out.mono ?_
 rintro e w5 ⟨H,rfl,hH,g5⟩
 have HF:=Em (hH.down HE.out.2.2.2) HE.out.1 HE.out.2.1 (HE.out.2.2.1.trans g5)
 clear HN HE hH g5
 go_wp2_with fail
 go_ret2
 exact⟨_,_,_,_,rfl,HF.out⟩
section
variable {w:F_} {H B N:Nat} {es:List AJ} {rk:List Int} {ss:List Sc}
theorem FM (h:Cf w H B N es rk ss) (GU:rk.length<=100000) (DS:ss.length<=100000) :
  H_ D_ 32 #[pt H] w λ e w'=>∃ v1 v2,e=.returned (.agg #[v1,v2])/\AS w' w.heap.size v1 rk/\FI w' w.heap.size v2 ss/\Af w w':=by
 obtain⟨v1,v2,v3,U,D,us,ds,h⟩:=h
 obtain⟨Ar,cr,rfl,hr⟩:=h.rank.row
 obtain⟨As,cs,rfl,hs,DR⟩:=h.cuts.row
 have bR:Ao (w.alloc (.cells #[.slice none 0 0,.slice none 0 0] 87)) w.heap.size 87 #[.slice none 0 0,.slice none 0 0]:=zv _ _ _
 obtain⟨w1,AT,g1⟩:=zg w (.cells #[.slice none 0 0,.slice none 0 0] 87)
 have s1:w1.heap.size=w.heap.size+1:=by rw[<- AT];simp
 rw[AT]at bR
 have HC:=zh (J5 Ar As cr cs rk ss w1 (hr.grew g1) (hs.kept g1 (λ _ _ h=>h)) GU DS)
 have b1:=h.blk.grew g1
 have x2:=b1.cell 2
 have x3:=b1.cell 3
 simp at x2 x3
 obtain⟨n1,EG⟩:=zn (rk.length)
 obtain⟨n2,Hs⟩:=zn (ss.length)
 rw[EG]at HC x2
 rw[Hs]at HC x3
 have H0:=Em bR g1 EG Hs
 have Ls:=zh s1
 clear bR g1 s1 b1 h hr hs DR GU DS EG Hs
 go_enter Tryz.func32,Tryz.ntmps32
 go_wp2_with fail
 refine HC.out.mono ?_
 rintro e w2 ⟨p1,p2,rfl,CQ,Cw,g2⟩
 obtain⟨A1,c1,FA⟩:=At CQ
 obtain⟨A2,c2,Lj⟩:=At Cw
 rw[H0.out.2.2.1]at FA
 rw[H0.out.2.2.2]at Lj
 subst FA Lj
 have hb:=H0.out.1.grew g2
 obtain⟨t5,t6⟩:=F8 hb (.slice A1 n1 c1) (.slice A2 n2 c2)
 have z0:=hb.frozen 0
 have z1:=(hb.set 0 (.slice A1 n1 c1)).frozen 1
 have z2:=hb.cell 0
 have z3:=(hb.set 0 (.slice A1 n1 c1)).cell 1
 have q0:=t5.cell 0
 have q1:=t5.cell 1
 simp at z2 z3 q0 q1
 have HF:=zh (show _/\_/\_ from ⟨AD (CQ.kept t6 (λ j hj lI=>by
   have h1:=(Ap CQ hj).1;have h2:=Ls.out;omega)) (show w.heap.size<=w1.heap.size from H0.out.2.1.size),AD (Kept.own t6 Cw (λ j hj lI=>by
   have h1:=(Ap Cw hj).1;have h2:=Ls.out;omega)) (show w.heap.size<=w1.heap.size from H0.out.2.1.size),((H0.out.2.1.trans g2).then t6 (λ i hi h=>by omega):Af w _)⟩)
 clear HC H0 Ls CQ Cw g2 hb t5 t6
 go_wp2_with fail
 exact zy (v:=.agg #[.slice A1 n1 c1,.slice A2 n2 c2]) (by simp[results,Tryz.results32,go_sem,q0,q1]) rfl ⟨_,_,rfl,HF.out⟩
theorem c8 (h:Cf w H B N es rk ss) (hle:es.length<=100000) :
  H_ D_ 147 #[pt H] w λ e w'=>∃ v,e=.returned (.agg #[i64 N,v])/\AP w' w.heap.size v es/\Af w w':=by
 obtain⟨v1,v2,v3,U,D,us,ds,h⟩:=h
 obtain⟨A,c,rfl,hr⟩:=h.edg.row
 have bR:Ao (w.alloc (.cells #[i64 0,.slice none 0 0] 24)) w.heap.size 24 #[i64 0,.slice none 0 0]:=zv _ _ _
 obtain⟨w1,AT,g1⟩:=zg w (.cells #[i64 0,.slice none 0 0] 24)
 have s1:w1.heap.size=w.heap.size+1:=by rw[<- AT];simp
 rw[AT]at bR
 have HC:=zh (C0 (N:Int) A c es w1 (hr.grew g1) hle)
 have b1:=h.blk.grew g1
 have x0:=b1.cell 0
 have x1:=b1.cell 1
 simp at x0 x1
 obtain⟨n1,EG⟩:=zn (es.length)
 rw[EG]at HC x1
 have H0:=DU bR g1 EG
 have Ls:=zh s1
 clear bR g1 s1 b1 h hr hle EG
 go_enter Tryz.func147,Tryz.ntmps147
 go_wp2_with fail
 refine HC.out.mono ?_
 rintro e w2 ⟨p1,rfl,CQ,g2⟩
 obtain⟨A1,c1,FA⟩:=At CQ
 rw[H0.out.2.2]at FA
 subst FA
 have hb:=H0.out.1.grew g2
 obtain⟨t5,t6⟩:=F8 hb (i64 N) (.slice A1 n1 c1)
 have z0:=hb.frozen 0
 have z1:=(hb.set 0 (i64 N)).frozen 1
 have z2:=hb.cell 0
 have z3:=(hb.set 0 (i64 N)).cell 1
 have q0:=t5.cell 0
 have q1:=t5.cell 1
 simp at z2 z3 q0 q1
 have HF:=zh (show _/\_ from ⟨(AD (Kept.own t6 CQ (λ j hj lI=>by
   have h1:=(Ap CQ hj).1;have h2:=Ls.out;omega)) (show w.heap.size<=w1.heap.size from H0.out.2.1.size):AP _ w.heap.size _ es),((H0.out.2.1.trans g2).then t6 (λ i hi h=>by omega):Af w _)⟩)
 clear HC H0 Ls CQ g2 hb t5 t6
 go_wp2_with fail
 exact zy (v:=.agg #[i64 N,.slice A1 n1 c1]) (by simp[results,Tryz.results147,go_sem,q0,q1]) rfl ⟨_,rfl,HF.out⟩
theorem GP (h:Cf w H B N es rk ss):H_ D_ 212 #[pt H] w λ e w'=>e=.returned (i64 N)/\w'=w:=by
 obtain⟨v1,v2,v3,U,D,us,ds,h⟩:=h;have x0:=h.blk.cell 0;simp at x0;clear h;go_enter Tryz.func212,Tryz.ntmps212;go_wp2_with fail;go_ret;exact⟨rfl,rfl⟩
theorem iX (h:Cf w H B N es rk ss):H_ D_ 428 #[pt H] w λ e w'=>e=.returned (i64 ss.length)/\w'=w:=by
 obtain⟨v1,v2,v3,U,D,us,ds,h⟩:=h;obtain⟨As,cs,rfl,hs,DR⟩:=h.cuts.row;have x0:=h.blk.cell 3;simp at x0;clear h hs DR;go_enter Tryz.func428,Tryz.ntmps428;go_wp2_with fail;go_ret;exact⟨rfl,rfl⟩
end
end Go.Proofs.YtepelooebggliaaGreatDoor
