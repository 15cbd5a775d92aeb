/- Walks of functions that the law reaches, and plain laws, part 10 of 21: lemmas for the proof in the last text; no condition. Shortened by program. -/
import Derived.Deep.Onto
import Derived.Deep.QuietTactic
import Derived.BigQuiet
import Derived.Test.YtepelooebggliaaGreatDoorSu0
import Derived.Test.YtepelooebggliaaGreatDoorSu3
import Derived.Test.YtepelooebggliaaGreatDoorSu8
open Go.World renaming heap->A_
open Go.Value renaming slice->B_,cells->C_
open Go.Proofs.Tryz renaming prog->D_,underlying26->E_
open Go renaming World->F_,Value->G_,Calls->H_
open List renaming getD_eq_getElem?_getD->I_,getElem?_toArray->J_,map_append->K_,length_map->L_,getElem?_set_self->M_,length_filter_le->N_,getElem?_set_ne->O_,filter_append->Pa,filter_cons->Pb,range_succ->Pc,filter_nil->Pd,length_set->Pe,replicate->Pf
open Nat renaming le_trans->Pg
open Int renaming toNat_natCast->Ph
open Go.Region renaming wanted->Pj
set_option maxHeartbeats 16000000
set_option maxRecDepth 100000
set_option linter.unusedVariables false
set_option linter.unusedSimpArgs false
namespace Go.Proofs.YtepelooebggliaaGreatDoor
open Go.RowKit
theorem Ki (Ar As:Option Addr) (cr cs:Nat) (rk:List Int) (ss:List Sc) (w:F_) (h:RowI w Ar rk) (h2:EW w As ss) (hl:rk.length<=100000) (oB:ss.length<=100000) :
  H_ D_ 50 #[.agg #[.slice Ar rk.length cr,.slice As ss.length cs]] w λ e w'=>∃ v1 v2,e=.returned (.agg #[v1,v2])/\AO w' w.heap.size v1 rk/\Fz w' w.heap.size v2 ss/\Ac w w':=by
 obtain⟨n,hn⟩:=zn (rk.length)
 obtain⟨m,hm⟩:=zn (ss.length)
 have bN:Am (w.alloc (.cells #[.slice Ar n cr,.slice As m cs] 87)) w.heap.size 87 #[.slice Ar n cr,.slice As m cs]:=zv _ _ _
 obtain⟨w1,AQ,g1⟩:=zg w (.cells #[.slice Ar n cr,.slice As m cs] 87)
 have s1:w1.heap.size=w.heap.size+1:=by rw[<- AQ];simp
 rw[AQ]at bN
 have bR:Am (w1.alloc (.cells #[.slice none 0 0,.slice none 0 0] 87)) w1.heap.size 87 #[.slice none 0 0,.slice none 0 0]:=zv _ _ _
 have g12:Ac w1 (w1.alloc (.cells #[.slice none 0 0,.slice none 0 0] 87)):=(zr _ _).alloc _
 obtain⟨w2,BM⟩:=zn (w1.alloc (.cells #[.slice none 0 0,.slice none 0 0] 87))
 rw[BM]at bR g12
 have s2:w2.heap.size=w.heap.size+2:=by rw[<- BM];simp[s1]
 have H0:=DK (g1.trans g12) s2 bR
 have HC:Hid (∀ w',Ac w2 w'->w'.cell? ⟨w.heap.size,0,none⟩=some (.slice Ar n cr)/\w'.cell? ⟨w.heap.size,1,none⟩=some (.slice As m cs)):=λ w' k=>by
  have hb:=(bN.grew g12).grew k;obtain⟨x0,x1⟩:=CE hb;exact⟨x0,x1⟩
 have HI:=zh (Gz Ar cr rk w2.drew (h.grew ((g1.trans g12).trans (zr (λ _=>False) w2).drew)) hl)
 have HS:Hid (∀ w',Ac w2.drew w'->H_ D_ 84 #[.slice As ss.length cs] w' λ e rZ=>∃ v,e=.returned v/\Fz rZ w'.heap.size v ss/\Ac w' rZ):=λ w' k=>cY As cs ss w' (h2.kept (((g1.trans g12).trans (zr (λ _=>False) w2).drew).trans k) (λ _ _ h=>h)) oB
 have HR:Hid (Am w2.drew w1.heap.size 87 #[.slice none 0 0,.slice none 0 0]):=bR
 have HN:=zh hn
 have HM:=zh hm
 have LI:=zh (show w1.heap.size=w.heap.size+1 from s1)
 rw[hn]at HI ⊢
 rw[hm]at HS ⊢
 clear hn hm s1 s2 g1 g12 h h2 hl oB bN bR
 go_enter Tryz.func50,Tryz.ntmps50
 go_upto_region 1 with fail
 refine rG [7] (λ _=>False) ?_
 refine pG 0 3 ?_
 refine tF 1 4 HC.out ((zr (λ _=>False) _).drew) ?_
 refine pG 3 6 ?_
 refine tF 4 7 HC.out ((zr (λ _=>False) _).drew) ?_
 refine sG 2 5 (λ K Aj=>?_)
 go_simp
 refine HI.out.mono ?_
 rintro e wa ⟨v1,rfl,CQ,g1⟩
 obtain⟨A1,c1,Gk,-⟩:=CQ.row
 rw[HN.out]at Gk
 subst Gk
 show K _ _
 refine Aj _ _ (λ _=>g1) ?_
 clear Aj
 simp only[sA]
 refine sG 5 8 (λ K Aj=>?_)
 go_simp
 refine(HS.out _ g1).mono ?_
 rintro e wb ⟨v2,rfl,Cr,g2⟩
 obtain⟨A2,c2,GO,-,-⟩:=Cr.row
 rw[HM.out]at GO
 subst GO
 have g12:Ac w2.drew wb:=g1.trans g2
 have hb:=HR.out.grew g12
 have z0:=hb.frozen 0
 have z1:=(hb.set 0 (.slice A1 n c1)).frozen 1
 have z2:=hb.cell 0
 have z3:=(hb.set 0 (.slice A1 n c1)).cell 1
 simp at z2 z3
 show K _ _
 refine Aj _ _ (λ _=>g2) ?_
 clear Aj
 simp only[sA]
 refine pG 6 9 ?_
 refine DH 7 (λ K Aj=>?_)
 go_simp
 refine Aj _ (λ h=>absurd (by simp) h) ?_
 clear Aj
 refine dG ?_
 obtain⟨t5,t6⟩:=F3 hb (.slice A1 n c1) (.slice A2 m c2)
 obtain⟨q0,q1⟩:=CE t5
 have Df:=H0.out.1.size
 have hHS:=LI.out
 have hH2:=H0.out.2.1
 have hd:w2.drew.heap.size=w2.heap.size:=rfl
 have HF:=zh (show _/\_/\_ from ⟨Az ((CQ.grew g2).kept t6 (λ j hj lT=>by
   have h1:=(Ao CQ hj).1;omega)) (show w.heap.size<=w2.drew.heap.size by omega),Az (Kept.own t6 Cr (λ j hj lT=>by
   have h1:=(Ao Cr hj).1;have:=g1.size;omega)) (show w.heap.size<=wa.heap.size by have:=g1.size;omega),((H0.out.1.trans ((zr (λ _=>False) w2).drew.trans g12)).then t6 (λ i hi h=>by omega):Ac w _)⟩)
 clear HI HS HC HR hb t5 t6 CQ Cr g1 g2 g12 Df hHS hH2 hd
 go_wp2_with fail
 exact zy (v:=.agg #[.slice A1 n c1,.slice A2 m c2]) (by simp[results,Tryz.results50,go_sem,q0,q1]) rfl ⟨_,_,rfl,HF.out⟩
section
variable {P:Program} {ops:Array Oper} {Q:Exit->Act->F_->Prop} {md:Region.Mode} {E:List Nat} {F:Nat->Prop}
theorem Ip (i d j d2 k d3:Nat) {oi oj ok:Oper} {fuel:Nat} {listed:Array Bool} {T:Array G_} {D:List Deferred} {w:F_} (hi:ops[i]? = some oi) (hj:ops[j]? = some oj) (hk:ops[k]? = some ok)
  (hr:Region.ready md ops listed=[i,j,k]) (hd:(ops[i]?).bind (·.dst)=some d) (vL:(ops[j]?).bind (·.dst)=some d2) (hd3:(ops[k]?).bind (·.dst)=some d3) (hw:Pj oi (yielded ops T)=true) (BM:Pj oj (yielded ops T)=true) (Dj:Pj ok (yielded ops T)=true)
  (h:∀ K:Act->F_->Prop,(∀ (v:G_) (w':F_),(i∉E->Kept F w w')->AK P md ops E F Q fuel (listed.setIfInBounds i true) ⟨T.setIfInBounds d v,D⟩ w'->K (Act.put ⟨T,D⟩ (some d) v) w')->({ oi with dst:=some d }).wp P ⟨T,D⟩ w K Q)
  (h2:∀ K:Act->F_->Prop,(∀ (v:G_) (w':F_),(j∉E->Kept F w w')->AK P md ops E F Q fuel (listed.setIfInBounds j true) ⟨T.setIfInBounds d2 v,D⟩ w'->K (Act.put ⟨T,D⟩ (some d2) v) w')->({ oj with dst:=some d2 }).wp P ⟨T,D⟩ w K Q)
  (h3:∀ K:Act->F_->Prop,(∀ (v:G_) (w':F_),(k∉E->Kept F w w')->AK P md ops E F Q fuel (listed.setIfInBounds k true) ⟨T.setIfInBounds d3 v,D⟩ w'->K (Act.put ⟨T,D⟩ (some d3) v) w')->({ ok with dst:=some d3 }).wp P ⟨T,D⟩ w K Q):AK P md ops E F Q (fuel+1) listed ⟨T,D⟩ w:=by
 have one:∀ (i d:Nat) (oi:Oper) (_:ops[i]? = some oi) (_:(ops[i]?).bind (·.dst)=some d) (_:Pj oi (yielded ops T)=true) (_:∀ K:Act->F_->Prop,(∀ (v:G_) (w':F_),(i∉E->Kept F w w')->AK P md ops E F Q fuel (listed.setIfInBounds i true) ⟨T.setIfInBounds d v,D⟩ w'->K (Act.put ⟨T,D⟩ (some d) v) w')->({ oi with dst:=some d }).wp P ⟨T,D⟩ w K Q),
   wpOp P ops Q i (λ a' w'=>(i∉E->Kept F w w')/\AK P md ops E F Q fuel (listed.setIfInBounds i true) a' w') ⟨T,D⟩ w:=by
  intro i d oi hi hd hw h
  unfold wpOp
  simp only[hi,hw,if_true]
  have e:({ oi with dst:=some d }:Oper)=oi:=by rw[<- FG hi hd]
  rw[<- e]
  refine .inl (Oper.wp_mono ?_ (h (λ a' w'=>∃ v,a'=Act.put ⟨T,D⟩ (some d) v/\(i∉E->Kept F w w')/\AK P md ops E F Q fuel (listed.setIfInBounds i true) ⟨T.setIfInBounds d v,D⟩ w') λ v w' h1 h2=>⟨v,rfl,h1,h2⟩))
  rintro a' w' ⟨v,rfl,h1,h2⟩
  exact⟨h1,h2⟩
 refine⟨λ h0=>(by rw[hr]at h0;cases h0),λ x hx=>?_⟩
 rw[hr]at hx
 rcases List.mem_cons.1 hx with rfl | hx
 ·exact one _ _ _ hi hd hw h
 ·rcases List.mem_cons.1 hx with rfl | hx
  ·exact one _ _ _ hj vL BM h2
  ·obtain rfl:=List.mem_singleton.1 hx;exact one _ _ _ hk hd3 Dj h3
end
def cF (rk:List Int) (s:Sc):Bool:=!decide (rk.getD s.to'.toNat 0<rk.getD s.from'.toNat 0)
def cH (rk:List Int) (ss:List Sc) (k:Nat) (u:Int):List Int:=((List.range k).filter (λ i=>match ss[i]? with | some s=>decide (s.from'=u)&&cF rk s | none=>false)).map (λ (i:Nat)=>(i:Int))
def cd (rk:List Int) (ss:List Sc) (k:Nat) (u:Int):List Int:=((List.range k).filter (λ i=>match ss[i]? with | some s=>decide (s.to'=u)&&!cF rk s | none=>false)).map (λ (i:Nat)=>(i:Int))
theorem ri (rk:List Int) (ss:List Sc) (u:Int):cH rk ss 0 u=[]:=rfl
theorem nv (rk:List Int) (ss:List Sc) (u:Int):cd rk ss 0 u=[]:=rfl
theorem Ln (rk:List Int) (ss:List Sc) (k:Nat) (u:Int) (s:Sc) (h:ss[k]? = some s):cH rk ss (k+1) u=if s.from'=u/\cF rk s=true then cH rk ss k u++[(k:Int)] else cH rk ss k u:=by
 unfold cH;rw[Pc,Pa,K_];simp only[Pb,Pd,h];by_cases h1:s.from'=u<;>by_cases h2:cF rk s=true<;>simp[h1,h2]
theorem Kc (rk:List Int) (ss:List Sc) (k:Nat) (u:Int) (s:Sc) (h:ss[k]? = some s):cd rk ss (k+1) u=if s.to'=u/\cF rk s=false then cd rk ss k u++[(k:Int)] else cd rk ss k u:=by
 unfold cd;rw[Pc,Pa,K_];simp only[Pb,Pd,h];by_cases h1:s.to'=u<;>by_cases h2:cF rk s=true<;>simp[h1,h2]
theorem ij (rk:List Int) (ss:List Sc) (k:Nat) (u:Int):(cH rk ss k u).length<=k:=by
 unfold cH;rw[L_];exact Pg (N_ _ _) (by simp)
theorem fy (rk:List Int) (ss:List Sc) (k:Nat) (u:Int):(cd rk ss k u).length<=k:=by
 unfold cd;rw[L_];exact Pg (N_ _ _) (by simp)
theorem gL {w:F_} {B:Nat} {A:Option Addr} {n c:Nat} {zs:List Int} (h:AO w B (.slice A n c) zs):zs.length<=c:=by
 rcases h.2 with ⟨hv,h0⟩ | ⟨g,cap,cur,hv,hb,hg,Bg,_⟩
 ·omega
 ·cases hv;exact Bg
theorem Ot (w:F_) (B:Nat) (A:Option Addr) (n c:Nat) (zs:List Int) (hn:zs.length=n) (h:AO w B (.slice A n c) zs) (a:Addr) (x:Int) (hx:w.cell? (a.add 0)=some (i64 x)) (hl:n<=100000) (ty:TypeId) :
  ∃ v' w',(Builtin.append_ #[26,26] ty #[.slice A n n,.slice (some a) 1 1]).run D_ w=.ok v' w'/\AO w' w.heap.size v' (zs++[x])/\Ac w w':=by
 obtain⟨i,hi,hz,h1,h2⟩:=info_parts info_int
 have vV:∀ j v,([i64 x]:List G_)[j]? = some v->w.cell? (a.add j)=some v:=λ j v hv=>by
  have hj:=(List.getElem?_eq_some_iff.1 hv).1;simp at hj;subst hj;simp at hv;rw[<- hv];exact hx
 have grown:∀ (old:Nat),(w.drew.alloc (.cells ((zs.map i64).toArray++#[i64 x]++Builtin.zeroCells (C_ (.int .i64 0)) (grownCap w (n+1) old 3-(n+1))) 3)).ownsRow w.heap.size 3 1
    (.slice (some ⟨w.heap.size,0,none⟩) (n+1) (grownCap w (n+1) old 3)) (n+1) ((zs++[x]).map i64):=by
  intro old
  have Oa:=grownCap_ge w (n+1) old 3
  have tq:grownCap w (n+1) old 3<=maxLen:=grownCap_le_maxLen w (n+1) old 3 (by unfold maxLen;omega)
  refine⟨by simp[hn],.inr ⟨w.heap.size,_,_,rfl,zl _,heap_alloc_new w.drew _,Oa,tq,?_,?_⟩⟩
  ·simp only[Array.size_append,List.size_toArray,size_zeroCells,L_,hn];simp[C_];omega
  ·simp only[Array.toList_append,K_,List.map_cons,List.map_nil];rw[show (n+1)*1=(zs.map i64++[i64 x]).length by simp[hn]];exact List.take_left
 have hg:Ac w (w.drew):=(zr _ _).drew
 rcases h.2 with ⟨hv,h0⟩ | ⟨g,cap,cur,hv,hb,jA,Bg,hm,Df,LW⟩
 ·cases hv;obtain rfl:zs=[]:=List.eq_nil_of_length_eq_zero h0;have hr:=run_append_nil (P:=D_) w 26 ty 3 i _ E_ hi hz a 1 1 [i64 x] (by rw[h1];rfl) vV (by omega) (by omega) (by rw[h2];omega);have Kl:=grown 0;refine⟨_,_,hr,?_,hg.alloc _⟩;simpa [AO] using Kl
 ·cases hv;have holds:=h.cells (g:=g) rfl;have hr:=run_append_grow (P:=D_) w 26 ty 3 i _ E_ hi hz ⟨g,0,none⟩ zs.length zs.length (zs.map i64) (by rw[h1];simp) holds a 1 1 [i64 x] (by rw[h1];rfl) vV (by omega) (by omega) (by rw[h2];exact growslice_fits (by omega) (by omega));refine⟨_,_,hr,?_,hg.alloc _⟩;have:=grown zs.length;unfold AO;rw[List.length_append];exact this
theorem Em {ops:Array Oper} {rest:List Oper} {o:Oper} {a:Act} {w:F_} {Q:Exit->Act->F_->Prop} (hgd:o.guard=none) (s x:Operand)
  (ho:o.op=.call { callee:=.builtin .append,args:=#[s,x],argTypes:=#[26,26] }) (B:Nat) (A:Option Addr) (n c:Nat) (zs:List Int) (hn:zs.length=n) (AV:AO w B (.slice A n c) zs) (ad:Addr) (y:Int) (hy:w.cell? (ad.add 0)=some (i64 y)) (hl:n<=100000)
  (hs:a.eval s=.slice A n n) (hx:a.eval x=.slice (some ad) 1 1) (h:∀ v' w',AO w' w.heap.size v' (zs++[y])->Ac w w'->wpList D_ ops Q rest (a.put o.dst v') w'):wpList D_ ops Q (o::rest) a w :=
 wpList_plain hgd λ K hK=>by
  obtain⟨v',w',hr,h2,h3⟩:=Ot w B A n c zs hn AV ad y hy hl o.type;unfold Oper.wp execOp;simp only[ho,resolve,invoke,builtin,Sem.run_bind,Sem.run_pure,Result.andThen_ok,List.map_toArray,List.map_cons,List.map_nil,hs,hx,hr];exact hK _ _ (h v' w' h2 h3)
structure Cb (w:F_) (H B N:Nat) (es:List AB) (rk:List Int) (ss:List Sc) (k:Nat) (v1 v2 v3:G_) (U D:Nat) (us ds:List G_):Prop where
 blk:Am w H 119 #[i64 N,v1,v2,v3,.slice (some ⟨U,0,none⟩) N N,.slice (some ⟨D,0,none⟩) N N]
 edg:Bc w B v1 es
 rank:AO w B v2 rk
 cuts:Fz w B v3 ss
 ub:Am w U 26 us.toArray
 db:Am w D 26 ds.toArray
 ul:us.length=N
 dl:ds.length=N
 ur:∀ (u:Nat) v,us[u]? = some v->AO w B v (cH rk ss k u)
 dr:∀ (u:Nat) v,ds[u]? = some v->AO w B v (cd rk ss k u)
 base:B<=H/\B<=U/\B<=D
 ud:U≠D
def Ca (w:F_) (H B N:Nat) (es:List AB) (rk:List Int) (ss:List Sc):Prop:=∃ v1 v2 v3 U D us ds,Cb w H B N es rk ss ss.length v1 v2 v3 U D us ds
theorem Cb.kept {F:Nat->Prop} {w w':F_} {H B N:Nat} {es:List AB} {rk:List Int} {ss:List Sc} {k:Nat} {v1 v2 v3:G_} {U D:Nat} {us ds:List G_} (h:Cb w H B N es rk ss k v1 v2 v3 U D us ds) (g:Kept F w w') (hF:∀ j,B<=j->¬ F j):Cb w' H B N es rk ss k v1 v2 v3 U D us ds where
 blk:=h.blk.kept g (hF _ h.base.1)
 edg:=Kept.own g h.edg λ j hj=>hF j (Ao h.edg hj).1
 rank:=h.rank.kept g λ j hj=>hF j (Ao h.rank hj).1
 cuts:=Kept.own g h.cuts λ j hj=>hF j (Ao h.cuts hj).1
 ub:=h.ub.kept g (hF _ h.base.2.1)
 db:=h.db.kept g (hF _ h.base.2.2)
 ul:=h.ul
 dl:=h.dl
 ur:=λ u v hv=>(h.ur u v hv).kept g λ j hj=>hF j (Ao (h.ur u v hv) hj).1
 dr:=λ u v hv=>(h.dr u v hv).kept g λ j hj=>hF j (Ao (h.dr u v hv) hj).1
 base:=h.base
 ud:=h.ud
theorem Ca.kept {F:Nat->Prop} {w w':F_} {H B N:Nat} {es:List AB} {rk:List Int} {ss:List Sc} (h:Ca w H B N es rk ss) (g:Kept F w w') (hF:∀ j,B<=j->¬ F j):Ca w' H B N es rk ss:=by
 obtain⟨v1,v2,v3,U,D,us,ds,h⟩:=h;exact⟨v1,v2,v3,U,D,us,ds,h.kept g hF⟩
theorem Ca.grew {w w':F_} {H B N:Nat} {es:List AB} {rk:List Int} {ss:List Sc} (h:Ca w H B N es rk ss) (g:Ac w w'):Ca w' H B N es rk ss:=h.kept g λ _ _ h=>h
theorem Cb.toUp {w:F_} {H B N:Nat} {es:List AB} {rk:List Int} {ss:List Sc} {k p:Nat} {v1 v2 v3 v':G_} {U D:Nat} {us ds:List G_} {s:Sc} (h:Cb w H B N es rk ss k v1 v2 v3 U D us ds) (hs:ss[k]? = some s) (hp:p<N) (hf:s.from'=(p:Int)) (hb:cF rk s=true) (ho:AO w B v' (cH rk ss k p++[(k:Int)])) :
  Cb (w.setCell ⟨U,p,none⟩ v') H B N es rk ss (k+1) v1 v2 v3 U D (us.set p v') ds:=by
 have g:Kept (λ j=>j=U) w (w.setCell ⟨U,p,none⟩ v'):=(zr (λ j=>j=U) w).setCell (p:=⟨U,p,none⟩) (.inl rfl) _
 have hHU:H≠U:=λ e=>by
  have h1:=h.blk;rw[e]at h1;have h2:=h1.symm.trans h.ub;injection h2 with h2;injection h2 with _ h3;exact absurd h3 (by decide)
 refine⟨h.blk.kept g hHU,Kept.own g h.edg λ j hj e=>Ax h.edg h.ub (by decide) (e▸hj),h.rank.kept g λ j hj e=>Ax h.rank h.ub (by decide) (e▸hj),Kept.own g h.cuts λ j hj e=>Ax h.cuts h.ub (by decide) (e▸hj),
  by simpa using h.ub.set p v',h.db.kept g (λ e=>h.ud e.symm),by rw[Pe];exact h.ul,h.dl,λ u v hv=>?_,λ u v hv=>?_,h.base,h.ud⟩
 ·by_cases hu:u=p
  ·subst hu;rw[M_ (by rw[h.ul];exact hp)]at hv;cases hv;rw[Ln rk ss k _ s hs,if_pos ⟨hf,hb⟩];exact ho.kept g λ j hj e=>Ax ho h.ub (by decide) (e▸hj)
  ·rw[O_ (λ e=>hu e.symm)]at hv;rw[Ln rk ss k _ s hs,if_neg (λ e=>hu (by have:=e.1;omega))];exact(h.ur u v hv).kept g λ j hj e=>Ax (h.ur u v hv) h.ub (by decide) (e▸hj)
 ·rw[Kc rk ss k _ s hs,if_neg (λ e=>by rw[hb]at e;cases e.2)];exact(h.dr u v hv).kept g λ j hj e=>Ax (h.dr u v hv) h.ub (by decide) (e▸hj)
theorem Cb.toDn {w:F_} {H B N:Nat} {es:List AB} {rk:List Int} {ss:List Sc} {k p:Nat} {v1 v2 v3 v':G_} {U D:Nat} {us ds:List G_} {s:Sc} (h:Cb w H B N es rk ss k v1 v2 v3 U D us ds) (hs:ss[k]? = some s) (hp:p<N) (hf:s.to'=(p:Int)) (hb:cF rk s=false) (ho:AO w B v' (cd rk ss k p++[(k:Int)])) :
  Cb (w.setCell ⟨D,p,none⟩ v') H B N es rk ss (k+1) v1 v2 v3 U D us (ds.set p v'):=by
 have g:Kept (λ j=>j=D) w (w.setCell ⟨D,p,none⟩ v'):=(zr (λ j=>j=D) w).setCell (p:=⟨D,p,none⟩) (.inl rfl) _
 have hHU:H≠D:=λ e=>by
  have h1:=h.blk;rw[e]at h1;have h2:=h1.symm.trans h.db;injection h2 with h2;injection h2 with _ h3;exact absurd h3 (by decide)
 refine⟨h.blk.kept g hHU,Kept.own g h.edg λ j hj e=>Ax h.edg h.db (by decide) (e▸hj),h.rank.kept g λ j hj e=>Ax h.rank h.db (by decide) (e▸hj),Kept.own g h.cuts λ j hj e=>Ax h.cuts h.db (by decide) (e▸hj),
  h.ub.kept g h.ud,by simpa using h.db.set p v',h.ul,by rw[Pe];exact h.dl,λ u v hv=>?_,λ u v hv=>?_,h.base,h.ud⟩
 ·rw[Ln rk ss k _ s hs,if_neg (λ e=>by rw[hb]at e;cases e.2)];exact(h.ur u v hv).kept g λ j hj e=>Ax (h.ur u v hv) h.db (by decide) (e▸hj)
 ·by_cases hu:u=p
  ·subst hu;rw[M_ (by rw[h.dl];exact hp)]at hv;cases hv;rw[Kc rk ss k _ s hs,if_pos ⟨hf,hb⟩];exact ho.kept g λ j hj e=>Ax ho h.db (by decide) (e▸hj)
  ·rw[O_ (λ e=>hu e.symm)]at hv;rw[Kc rk ss k _ s hs,if_neg (λ e=>hu (by have:=e.1;omega))];exact(h.dr u v hv).kept g λ j hj e=>Ax (h.dr u v hv) h.db (by decide) (e▸hj)
theorem BC (w:F_) (H B N:Nat) (es:List AB) (rk:List Int) (ss:List Sc) (v1 v2 v3:G_) (U D:Nat) (blk:Am w H 119 #[i64 N,v1,v2,v3,.slice (some ⟨U,0,none⟩) N N,.slice (some ⟨D,0,none⟩) N N]) {B1 B2 B3:Nat} (edg:Bc w B1 v1 es) (rank:AO w B2 v2 rk) (cuts:Fz w B3 v3 ss)
  (ub:Am w U 26 (madeCells #[B_ none 0 0] N)) (db:Am w D 26 (madeCells #[B_ none 0 0] N)) (b1:B<=B1) (b2:B<=B2) (b3:B<=B3) (bH:B<=H) (bU:B<=U) (bD:B<=D) (zw:U≠D):Cb w H B N es rk ss 0 v1 v2 v3 U D (Pf N (.slice none 0 0)) (Pf N (.slice none 0 0)):=by
 have e:=If (.slice none 0 0) N rfl
 simp only[C_]at e
 rw[e]at ub db
 refine⟨blk,Az edg b1,Az rank b2,Az cuts b3,ub,db,by simp,by simp,λ u v hv=>?_,λ u v hv=>?_,⟨bH,bU,bD⟩,zw⟩
 ·have:=zm hv;simp at this;rw[this.2];exact⟨by simp[ri],.inl ⟨rfl,rfl⟩⟩
 ·have:=zm hv;simp at this;rw[this.2];exact⟨by simp[nv],.inl ⟨rfl,rfl⟩⟩
theorem jO:(D_.info? 26).map (λ i=>(i.zero,i.size,i.bytes))=some (some (.slice none 0 0),1,24):=by kernel_rfl
theorem oJ (A Ar As:Option Addr) (c N cr cs:Nat) (es:List AB) (rk:List Int) (ss:List Sc) (w:F_) (h:Bj w A es) (h2:RowI w Ar rk) (h3:EW w As ss) (hle:es.length<=100000) (GM:rk.length<=100000) (DY:ss.length<=100000) (Et:ss.length<=cs) (hr:Aq N es=0) (hm:made N es rk ss) (hN:N<=4096) :
  H_ D_ 192 #[.agg #[i64 N,.slice A es.length c],.agg #[.slice Ar rk.length cr,.slice As ss.length cs]] w λ e w'=>∃ H,e=.returned (.tuple #[pt H,i64 0])/\Ca w' H w.heap.size N es rk ss/\Ac w w':=by
 have bN:Am (w.alloc (.cells #[i64 N,.slice A es.length c] 24)) w.heap.size 24 #[i64 N,.slice A es.length c]:=zv _ _ _
 obtain⟨w1,AQ,g1⟩:=zg w (.cells #[i64 N,.slice A es.length c] 24)
 have s1:w1.heap.size=w.heap.size+1:=by rw[<- AQ];simp
 rw[AQ]at bN
 have bO:Am (w1.alloc (.cells #[.slice Ar rk.length cr,.slice As ss.length cs] 87)) w1.heap.size 87 #[.slice Ar rk.length cr,.slice As ss.length cs]:=zv _ _ _
 have g12:Ac w1 (w1.alloc (.cells #[.slice Ar rk.length cr,.slice As ss.length cs] 87)):=(zr _ _).alloc _
 obtain⟨w2,BM⟩:=zn (w1.alloc (.cells #[.slice Ar rk.length cr,.slice As ss.length cs] 87))
 rw[BM]at bO g12
 have s2:w2.heap.size=w.heap.size+2:=by rw[<- BM];simp[s1]
 have LI:=BP ((show w1.heap.size=w.heap.size+1 from s1)) s2
 have g2:=g1.trans g12
 have HM:=zh (pD (N:Int) es A c rk Ar cr ss As cs w2 (h.grew g2) (h2.grew g2) (h3.kept g2 (λ _ _ h=>h)) hle GM DY Et)
 have sk:Hid (∀ w',Ac w2 w'->w'.cell? ⟨w.heap.size,0,none⟩=some (i64 N)/\w'.cell? ⟨w.heap.size,1,none⟩=some (.slice A es.length c)/\w'.cell? ⟨w1.heap.size,0,none⟩=some (.slice Ar rk.length cr)/\w'.cell? ⟨w1.heap.size,1,none⟩=some (.slice As ss.length cs)):=λ w' k=>by
  have hb:=(bN.grew g12).grew k;have FY:=bO.grew k;have x0:=hb.cell 0;have x1:=hb.cell 1;have x2:=FY.cell 0;have x3:=FY.cell 1;simp at x0 x1 x2 x3;exact⟨x0,x1,x2,x3⟩
 have H0:=Gt g2 (h.grew g2) (h2.grew g2) ((h3.kept g2 (λ _ _ h=>h):EW w2 As ss)) hm
 have HH:=DS hr hle GM DY
 obtain⟨i1,jB,ET,Jq,lU⟩:=info_parts jO
 have Mv:=λ W=>run_make (P:=D_) W 117 26 i1 _ Tryz.underlying117 jB ET .i64 .i64 (N:Int) (N:Int) (by omega) (Int.le_refl _) (by rw[lU];omega) (by omega)
 simp only[Ph,Jq,Nat.mul_one]at Mv
 obtain⟨q0,q1,q2,q3⟩:=sk.out w2 (zr _ _)
 clear bN bO g1 g12 g2 h h2 h3 hr hm hle GM DY jB ET Jq lU s1 s2
 go_enter Tryz.func192,Tryz.ntmps192
 go_wp2_with fail
 refine HM.out.mono ?_
 rintro e w5 ⟨⟨kk,b,rfl,hb,hk⟩,g5⟩
 obtain rfl:b=true:=hb.2 ⟨HH.out.1,H0.out.2.2.2.2⟩
 obtain rfl:kk=0:=hk rfl
 have G5:=zh g5
 have HC:Hid (∀ w',Ac w5 w'->w'.cell? ⟨w.heap.size,0,none⟩=some (i64 N)/\w'.cell? ⟨w.heap.size,1,none⟩=some (.slice A es.length c)/\w'.cell? ⟨w1.heap.size,0,none⟩=some (.slice Ar rk.length cr)/\w'.cell? ⟨w1.heap.size,1,none⟩=some (.slice As ss.length cs)):=λ w' k=>sk.out w' (g5.trans k)
 have HCg:Hid (∀ w',Ac w5 w'->H_ D_ 136 #[.agg #[i64 N,.slice A es.length c]] w' λ e rZ=>∃ v,e=.returned (.agg #[i64 N,v])/\Bc rZ w'.heap.size v es/\Ac w' rZ):=λ w' k=>C4 (N:Int) A c es w' (H0.out.2.1.grew (g5.trans k)) HH.out.2.1
 have lI:Hid (∀ w',Ac w5 w'->H_ D_ 50 #[.agg #[.slice Ar rk.length cr,.slice As ss.length cs]] w' λ e rZ=>∃ v1 v2,e=.returned (.agg #[v1,v2])/\AO rZ w'.heap.size v1 rk/\Fz rZ w'.heap.size v2 ss/\Ac w' rZ):=λ w' k=>Ki Ar As cr cs rk ss w' (H0.out.2.2.1.grew (g5.trans k)) (H0.out.2.2.2.1.kept (g5.trans k) (λ _ _ h=>h)) HH.out.2.2.1 HH.out.2.2.2
 have iC:Hid (w.heap.size+2<=w5.heap.size):=by have:=g5.size;have:=LI.out.2;show _<=_;omega
 clear HM hb hk g5 q0 q1 q2 q3 sk
 go_upto_region 6 with fail
 have gz:Ac w5 w5.drew:=(zr _ _).drew
 go_cut [8] (λ s8 wx=>∃ H,s8=pt H/\∃ v1 v2 v3 U D us ds,Cb wx H w5.heap.size N es rk ss 0 v1 v2 v3 U D us ds/\Ac w5 wx)
 case first =>
  refine rG [] (λ _=>False) ?_;obtain⟨y0,Dq⟩:=zn (w5.drew);rw[Dq]at gz ⊢;clear Dq;refine tF 0 26 HC.out gz ?_;refine tF 2 28 HC.out gz ?_;refine pG 4 30 ?_;refine tF 5 31 HC.out gz ?_;refine pG 7 33 ?_;refine tF 8 34 HC.out gz ?_;refine Ip 1 27 6 32 9 35 rfl rfl rfl (by kernel_rfl) rfl rfl rfl (by rfl) (by rfl) (by rfl) (λ K Aj=>?_) (λ K Aj=>?_) (λ K Aj=>?_)
  ·skip;go_simp;refine(HCg.out _ (gz)).mono ?_;rintro e y1 ⟨e1,rfl,CQ,g1⟩;obtain⟨A1,c1,rfl⟩:=Ap CQ;show K _ _;refine Aj (.agg #[i64 N,.slice A1 es.length c1]) _ (λ _=>g1) ?_;clear Aj;simp only[sA];refine Ip 3 29 6 32 9 35 rfl rfl rfl (by kernel_rfl) rfl rfl rfl (by rfl) (by rfl) (by rfl) (λ K Aj=>?_) (λ K Aj=>?_) (λ K Aj=>?_)
   ·skip;go_simp;refine(lI.out _ ((gz).trans g1)).mono ?_;rintro e y2 ⟨v1,v2,rfl,Cr,E6,g2⟩;obtain⟨A2,c2,rfl⟩:=Ap Cr;obtain⟨A3,c3,rfl⟩:=Ap E6;show K _ _;refine Aj (.agg #[.slice A2 rk.length c2,.slice A3 ss.length c3]) _ (λ _=>g2) ?_;clear Aj;simp only[sA];refine AP 6 32 9 35 rfl rfl (by kernel_rfl) rfl rfl (by rfl) (by rfl) (λ K Aj=>?_) (λ K Aj=>?_)
    ·skip;go_simp;obtain⟨y3,DQ,g3⟩:=zg y2 (.cells (madeCells #[B_ none 0 0] N) 26);have bU:Am y3 (A_ y2).size 26 (madeCells #[B_ none 0 0] N):=by rw[<- DQ];exact zv _ _ _
     rw[DQ];refine Aj (.slice (some ⟨(A_ y2).size,0,none⟩) N N) _ (λ _=>g3) ?_;clear Aj;simp only[sA];refine sG 9 35 (λ K Aj=>?_);go_simp;obtain⟨y4,Fs,g4⟩:=zg y3 (.cells (madeCells #[B_ none 0 0] N) 26);have bD:Am y4 (A_ y3).size 26 (madeCells #[B_ none 0 0] N):=by rw[<- Fs];exact zv _ _ _
     rw[Fs];refine Aj (.slice (some ⟨(A_ y3).size,0,none⟩) N N) _ (λ _=>g4) ?_;clear Aj;simp only[sA];refine pG 10 36 ?_;refine sG 11 37 (λ K Aj=>?_);go_simp;have gb:Ac y4 (y4.alloc (.cells #[i64 N,.slice A1 es.length c1,.slice A2 rk.length c2,.slice A3 ss.length c3,.slice (some ⟨(A_ y2).size,0,none⟩) N N,.slice (some ⟨(A_ y3).size,0,none⟩) N N] 119)):=(zr _ _).alloc _;refine Aj (pt y4.heap.size) _ (λ _=>gb) ?_;clear Aj;simp only[sA];refine pG 12 8 ?_;refine dG ?_;go_wp2_with fail;go_meet;refine⟨_,rfl,_,_,_,_,_,_,_,BC _ _ _ _ _ _ _ _ _ _ _ _ (by exact zv _ _ _) (Ac.own gb (Ac.own (((g2).trans g3).trans g4) CQ)) ((Cr.grew ((g3).trans g4)).grew gb) (Ac.own gb (Ac.own ((g3).trans g4) E6)) ((bU.grew (g4)).grew gb) ((bD.grew ((zr (λ _=>False) _))).grew gb) ?_ ?_ ?_ ?_ ?_ ?_ ?_,?_⟩;all_goals first
      | (exact(((gz.trans g1).trans g2).trans g3).trans g4 |>.trans gb)
      | (have z0:=gz.size;have z1:=g1.size;have z2:=g2.size;have z3:=g3.size;have z4:=g4.size;have q1:=bU.lt;have q2:=bD.lt;have zz:=iC.out;omega)
    ·skip;go_simp;obtain⟨y3,DQ,g3⟩:=zg y2 (.cells (madeCells #[B_ none 0 0] N) 26);have bD:Am y3 (A_ y2).size 26 (madeCells #[B_ none 0 0] N):=by rw[<- DQ];exact zv _ _ _
     rw[DQ];refine Aj (.slice (some ⟨(A_ y2).size,0,none⟩) N N) _ (λ _=>g3) ?_;clear Aj;simp only[sA];refine sG 6 32 (λ K Aj=>?_);go_simp;obtain⟨y4,Fs,g4⟩:=zg y3 (.cells (madeCells #[B_ none 0 0] N) 26);have bU:Am y4 (A_ y3).size 26 (madeCells #[B_ none 0 0] N):=by rw[<- Fs];exact zv _ _ _
     rw[Fs];refine Aj (.slice (some ⟨(A_ y3).size,0,none⟩) N N) _ (λ _=>g4) ?_;clear Aj;simp only[sA];refine pG 10 36 ?_;refine sG 11 37 (λ K Aj=>?_);go_simp;have gb:Ac y4 (y4.alloc (.cells #[i64 N,.slice A1 es.length c1,.slice A2 rk.length c2,.slice A3 ss.length c3,.slice (some ⟨(A_ y3).size,0,none⟩) N N,.slice (some ⟨(A_ y2).size,0,none⟩) N N] 119)):=(zr _ _).alloc _;refine Aj (pt y4.heap.size) _ (λ _=>gb) ?_;clear Aj;simp only[sA];refine pG 12 8 ?_;refine dG ?_;go_wp2_with fail;go_meet;refine⟨_,rfl,_,_,_,_,_,_,_,BC _ _ _ _ _ _ _ _ _ _ _ _ (by exact zv _ _ _) (Ac.own gb (Ac.own (((g2).trans g3).trans g4) CQ)) ((Cr.grew ((g3).trans g4)).grew gb) (Ac.own gb (Ac.own ((g3).trans g4) E6)) ((bU.grew ((zr (λ _=>False) _))).grew gb) ((bD.grew (g4)).grew gb) ?_ ?_ ?_ ?_ ?_ ?_ ?_,?_⟩;all_goals first
      | (exact(((gz.trans g1).trans g2).trans g3).trans g4 |>.trans gb)
      | (have z0:=gz.size;have z1:=g1.size;have z2:=g2.size;have z3:=g3.size;have z4:=g4.size;have q1:=bU.lt;have q2:=bD.lt;have zz:=iC.out;omega)
   ·skip;go_simp;obtain⟨y2,DC,g2⟩:=zg y1 (.cells (madeCells #[B_ none 0 0] N) 26);have bU:Am y2 (A_ y1).size 26 (madeCells #[B_ none 0 0] N):=by rw[<- DC];exact zv _ _ _
    rw[DC];refine Aj (.slice (some ⟨(A_ y1).size,0,none⟩) N N) _ (λ _=>g2) ?_;clear Aj;simp only[sA];refine AP 3 29 9 35 rfl rfl (by kernel_rfl) rfl rfl (by rfl) (by rfl) (λ K Aj=>?_) (λ K Aj=>?_)
    ·skip;go_simp;refine(lI.out _ (((gz).trans g1).trans g2)).mono ?_;rintro e y3 ⟨v1,v2,rfl,Cr,E6,g3⟩;obtain⟨A2,c2,rfl⟩:=Ap Cr;obtain⟨A3,c3,rfl⟩:=Ap E6;show K _ _;refine Aj (.agg #[.slice A2 rk.length c2,.slice A3 ss.length c3]) _ (λ _=>g3) ?_;clear Aj;simp only[sA];refine sG 9 35 (λ K Aj=>?_);go_simp;obtain⟨y4,Fs,g4⟩:=zg y3 (.cells (madeCells #[B_ none 0 0] N) 26);have bD:Am y4 (A_ y3).size 26 (madeCells #[B_ none 0 0] N):=by rw[<- Fs];exact zv _ _ _
     rw[Fs];refine Aj (.slice (some ⟨(A_ y3).size,0,none⟩) N N) _ (λ _=>g4) ?_;clear Aj;simp only[sA];refine pG 10 36 ?_;refine sG 11 37 (λ K Aj=>?_);go_simp;have gb:Ac y4 (y4.alloc (.cells #[i64 N,.slice A1 es.length c1,.slice A2 rk.length c2,.slice A3 ss.length c3,.slice (some ⟨(A_ y1).size,0,none⟩) N N,.slice (some ⟨(A_ y3).size,0,none⟩) N N] 119)):=(zr _ _).alloc _;refine Aj (pt y4.heap.size) _ (λ _=>gb) ?_;clear Aj;simp only[sA];refine pG 12 8 ?_;refine dG ?_;go_wp2_with fail;go_meet;refine⟨_,rfl,_,_,_,_,_,_,_,BC _ _ _ _ _ _ _ _ _ _ _ _ (by exact zv _ _ _) (Ac.own gb (Ac.own (((g2).trans g3).trans g4) CQ)) ((Cr.grew (g4)).grew gb) (Ac.own gb (Ac.own (g4) E6)) ((bU.grew ((g3).trans g4)).grew gb) ((bD.grew ((zr (λ _=>False) _))).grew gb) ?_ ?_ ?_ ?_ ?_ ?_ ?_,?_⟩;all_goals first
      | (exact(((gz.trans g1).trans g2).trans g3).trans g4 |>.trans gb)
      | (have z0:=gz.size;have z1:=g1.size;have z2:=g2.size;have z3:=g3.size;have z4:=g4.size;have q1:=bU.lt;have q2:=bD.lt;have zz:=iC.out;omega)
    ·skip;go_simp;obtain⟨y3,DQ,g3⟩:=zg y2 (.cells (madeCells #[B_ none 0 0] N) 26);have bD:Am y3 (A_ y2).size 26 (madeCells #[B_ none 0 0] N):=by rw[<- DQ];exact zv _ _ _
     rw[DQ];refine Aj (.slice (some ⟨(A_ y2).size,0,none⟩) N N) _ (λ _=>g3) ?_;clear Aj;simp only[sA];refine sG 3 29 (λ K Aj=>?_);go_simp;refine(lI.out _ ((((gz).trans g1).trans g2).trans g3)).mono ?_;rintro e y4 ⟨v1,v2,rfl,Cr,E6,g4⟩;obtain⟨A2,c2,rfl⟩:=Ap Cr;obtain⟨A3,c3,rfl⟩:=Ap E6;show K _ _;refine Aj (.agg #[.slice A2 rk.length c2,.slice A3 ss.length c3]) _ (λ _=>g4) ?_;clear Aj;simp only[sA];refine pG 10 36 ?_;refine sG 11 37 (λ K Aj=>?_);go_simp;have gb:Ac y4 (y4.alloc (.cells #[i64 N,.slice A1 es.length c1,.slice A2 rk.length c2,.slice A3 ss.length c3,.slice (some ⟨(A_ y1).size,0,none⟩) N N,.slice (some ⟨(A_ y2).size,0,none⟩) N N] 119)):=(zr _ _).alloc _;refine Aj (pt y4.heap.size) _ (λ _=>gb) ?_;clear Aj;simp only[sA];refine pG 12 8 ?_;refine dG ?_;go_wp2_with fail;go_meet;refine⟨_,rfl,_,_,_,_,_,_,_,BC _ _ _ _ _ _ _ _ _ _ _ _ (by exact zv _ _ _) (Ac.own gb (Ac.own (((g2).trans g3).trans g4) CQ)) ((Cr.grew ((zr (λ _=>False) _))).grew gb) (Ac.own gb (Ac.own ((zr (λ _=>False) _)) E6)) ((bU.grew ((g3).trans g4)).grew gb) ((bD.grew (g4)).grew gb) ?_ ?_ ?_ ?_ ?_ ?_ ?_,?_⟩;all_goals first
      | (exact(((gz.trans g1).trans g2).trans g3).trans g4 |>.trans gb)
      | (have z0:=gz.size;have z1:=g1.size;have z2:=g2.size;have z3:=g3.size;have z4:=g4.size;have q1:=bU.lt;have q2:=bD.lt;have zz:=iC.out;omega)
   ·skip;go_simp;obtain⟨y2,DC,g2⟩:=zg y1 (.cells (madeCells #[B_ none 0 0] N) 26);have bD:Am y2 (A_ y1).size 26 (madeCells #[B_ none 0 0] N):=by rw[<- DC];exact zv _ _ _
    rw[DC];refine Aj (.slice (some ⟨(A_ y1).size,0,none⟩) N N) _ (λ _=>g2) ?_;clear Aj;simp only[sA];refine AP 3 29 6 32 rfl rfl (by kernel_rfl) rfl rfl (by rfl) (by rfl) (λ K Aj=>?_) (λ K Aj=>?_)
    ·skip;go_simp;refine(lI.out _ (((gz).trans g1).trans g2)).mono ?_;rintro e y3 ⟨v1,v2,rfl,Cr,E6,g3⟩;obtain⟨A2,c2,rfl⟩:=Ap Cr;obtain⟨A3,c3,rfl⟩:=Ap E6;show K _ _;refine Aj (.agg #[.slice A2 rk.length c2,.slice A3 ss.length c3]) _ (λ _=>g3) ?_;clear Aj;simp only[sA];refine sG 6 32 (λ K Aj=>?_);go_simp;obtain⟨y4,Fs,g4⟩:=zg y3 (.cells (madeCells #[B_ none 0 0] N) 26);have bU:Am y4 (A_ y3).size 26 (madeCells #[B_ none 0 0] N):=by rw[<- Fs];exact zv _ _ _
     rw[Fs];refine Aj (.slice (some ⟨(A_ y3).size,0,none⟩) N N) _ (λ _=>g4) ?_;clear Aj;simp only[sA];refine pG 10 36 ?_;refine sG 11 37 (λ K Aj=>?_);go_simp;have gb:Ac y4 (y4.alloc (.cells #[i64 N,.slice A1 es.length c1,.slice A2 rk.length c2,.slice A3 ss.length c3,.slice (some ⟨(A_ y3).size,0,none⟩) N N,.slice (some ⟨(A_ y1).size,0,none⟩) N N] 119)):=(zr _ _).alloc _;refine Aj (pt y4.heap.size) _ (λ _=>gb) ?_;clear Aj;simp only[sA];refine pG 12 8 ?_;refine dG ?_;go_wp2_with fail;go_meet;refine⟨_,rfl,_,_,_,_,_,_,_,BC _ _ _ _ _ _ _ _ _ _ _ _ (by exact zv _ _ _) (Ac.own gb (Ac.own (((g2).trans g3).trans g4) CQ)) ((Cr.grew (g4)).grew gb) (Ac.own gb (Ac.own (g4) E6)) ((bU.grew ((zr (λ _=>False) _))).grew gb) ((bD.grew ((g3).trans g4)).grew gb) ?_ ?_ ?_ ?_ ?_ ?_ ?_,?_⟩;all_goals first
      | (exact(((gz.trans g1).trans g2).trans g3).trans g4 |>.trans gb)
      | (have z0:=gz.size;have z1:=g1.size;have z2:=g2.size;have z3:=g3.size;have z4:=g4.size;have q1:=bU.lt;have q2:=bD.lt;have zz:=iC.out;omega)
    ·skip;go_simp;obtain⟨y3,DQ,g3⟩:=zg y2 (.cells (madeCells #[B_ none 0 0] N) 26);have bU:Am y3 (A_ y2).size 26 (madeCells #[B_ none 0 0] N):=by rw[<- DQ];exact zv _ _ _
     rw[DQ];refine Aj (.slice (some ⟨(A_ y2).size,0,none⟩) N N) _ (λ _=>g3) ?_;clear Aj;simp only[sA];refine sG 3 29 (λ K Aj=>?_);go_simp;refine(lI.out _ ((((gz).trans g1).trans g2).trans g3)).mono ?_;rintro e y4 ⟨v1,v2,rfl,Cr,E6,g4⟩;obtain⟨A2,c2,rfl⟩:=Ap Cr;obtain⟨A3,c3,rfl⟩:=Ap E6;show K _ _;refine Aj (.agg #[.slice A2 rk.length c2,.slice A3 ss.length c3]) _ (λ _=>g4) ?_;clear Aj;simp only[sA];refine pG 10 36 ?_;refine sG 11 37 (λ K Aj=>?_);go_simp;have gb:Ac y4 (y4.alloc (.cells #[i64 N,.slice A1 es.length c1,.slice A2 rk.length c2,.slice A3 ss.length c3,.slice (some ⟨(A_ y2).size,0,none⟩) N N,.slice (some ⟨(A_ y1).size,0,none⟩) N N] 119)):=(zr _ _).alloc _;refine Aj (pt y4.heap.size) _ (λ _=>gb) ?_;clear Aj;simp only[sA];refine pG 12 8 ?_;refine dG ?_;go_wp2_with fail;go_meet;refine⟨_,rfl,_,_,_,_,_,_,_,BC _ _ _ _ _ _ _ _ _ _ _ _ (by exact zv _ _ _) (Ac.own gb (Ac.own (((g2).trans g3).trans g4) CQ)) ((Cr.grew ((zr (λ _=>False) _))).grew gb) (Ac.own gb (Ac.own ((zr (λ _=>False) _)) E6)) ((bU.grew (g4)).grew gb) ((bD.grew ((g3).trans g4)).grew gb) ?_ ?_ ?_ ?_ ?_ ?_ ?_,?_⟩;all_goals first
      | (exact(((gz.trans g1).trans g2).trans g3).trans g4 |>.trans gb)
      | (have z0:=gz.size;have z1:=g1.size;have z2:=g2.size;have z3:=g3.size;have z4:=g4.size;have q1:=bU.lt;have q2:=bD.lt;have zz:=iC.out;omega)
  ·skip;go_simp;obtain⟨y1,Br,g1⟩:=zg y0 (.cells (madeCells #[B_ none 0 0] N) 26);have bU:Am y1 (A_ y0).size 26 (madeCells #[B_ none 0 0] N):=by rw[<- Br];exact zv _ _ _
   rw[Br];refine Aj (.slice (some ⟨(A_ y0).size,0,none⟩) N N) _ (λ _=>g1) ?_;clear Aj;simp only[sA];refine AP 1 27 9 35 rfl rfl (by kernel_rfl) rfl rfl (by rfl) (by rfl) (λ K Aj=>?_) (λ K Aj=>?_)
   ·skip;go_simp;refine(HCg.out _ ((gz).trans g1)).mono ?_;rintro e y2 ⟨e1,rfl,CQ,g2⟩;obtain⟨A1,c1,rfl⟩:=Ap CQ;show K _ _;refine Aj (.agg #[i64 N,.slice A1 es.length c1]) _ (λ _=>g2) ?_;clear Aj;simp only[sA];refine AP 3 29 9 35 rfl rfl (by kernel_rfl) rfl rfl (by rfl) (by rfl) (λ K Aj=>?_) (λ K Aj=>?_)
    ·skip;go_simp;refine(lI.out _ (((gz).trans g1).trans g2)).mono ?_;rintro e y3 ⟨v1,v2,rfl,Cr,E6,g3⟩;obtain⟨A2,c2,rfl⟩:=Ap Cr;obtain⟨A3,c3,rfl⟩:=Ap E6;show K _ _;refine Aj (.agg #[.slice A2 rk.length c2,.slice A3 ss.length c3]) _ (λ _=>g3) ?_;clear Aj;simp only[sA];refine sG 9 35 (λ K Aj=>?_);go_simp;obtain⟨y4,Fs,g4⟩:=zg y3 (.cells (madeCells #[B_ none 0 0] N) 26);have bD:Am y4 (A_ y3).size 26 (madeCells #[B_ none 0 0] N):=by rw[<- Fs];exact zv _ _ _
     rw[Fs];refine Aj (.slice (some ⟨(A_ y3).size,0,none⟩) N N) _ (λ _=>g4) ?_;clear Aj;simp only[sA];refine pG 10 36 ?_;refine sG 11 37 (λ K Aj=>?_);go_simp;have gb:Ac y4 (y4.alloc (.cells #[i64 N,.slice A1 es.length c1,.slice A2 rk.length c2,.slice A3 ss.length c3,.slice (some ⟨(A_ y0).size,0,none⟩) N N,.slice (some ⟨(A_ y3).size,0,none⟩) N N] 119)):=(zr _ _).alloc _;refine Aj (pt y4.heap.size) _ (λ _=>gb) ?_;clear Aj;simp only[sA];refine pG 12 8 ?_;refine dG ?_;go_wp2_with fail;go_meet;refine⟨_,rfl,_,_,_,_,_,_,_,BC _ _ _ _ _ _ _ _ _ _ _ _ (by exact zv _ _ _) (Ac.own gb (Ac.own ((g3).trans g4) CQ)) ((Cr.grew (g4)).grew gb) (Ac.own gb (Ac.own (g4) E6)) ((bU.grew (((g2).trans g3).trans g4)).grew gb) ((bD.grew ((zr (λ _=>False) _))).grew gb) ?_ ?_ ?_ ?_ ?_ ?_ ?_,?_⟩;all_goals first
      | (exact(((gz.trans g1).trans g2).trans g3).trans g4 |>.trans gb)
      | (have z0:=gz.size;have z1:=g1.size;have z2:=g2.size;have z3:=g3.size;have z4:=g4.size;have q1:=bU.lt;have q2:=bD.lt;have zz:=iC.out;omega)
    ·skip;go_simp;obtain⟨y3,DQ,g3⟩:=zg y2 (.cells (madeCells #[B_ none 0 0] N) 26);have bD:Am y3 (A_ y2).size 26 (madeCells #[B_ none 0 0] N):=by rw[<- DQ];exact zv _ _ _
     rw[DQ];refine Aj (.slice (some ⟨(A_ y2).size,0,none⟩) N N) _ (λ _=>g3) ?_;clear Aj;simp only[sA];refine sG 3 29 (λ K Aj=>?_);go_simp;refine(lI.out _ ((((gz).trans g1).trans g2).trans g3)).mono ?_;rintro e y4 ⟨v1,v2,rfl,Cr,E6,g4⟩;obtain⟨A2,c2,rfl⟩:=Ap Cr;obtain⟨A3,c3,rfl⟩:=Ap E6;show K _ _;refine Aj (.agg #[.slice A2 rk.length c2,.slice A3 ss.length c3]) _ (λ _=>g4) ?_;clear Aj;simp only[sA];refine pG 10 36 ?_;refine sG 11 37 (λ K Aj=>?_);go_simp;have gb:Ac y4 (y4.alloc (.cells #[i64 N,.slice A1 es.length c1,.slice A2 rk.length c2,.slice A3 ss.length c3,.slice (some ⟨(A_ y0).size,0,none⟩) N N,.slice (some ⟨(A_ y2).size,0,none⟩) N N] 119)):=(zr _ _).alloc _;refine Aj (pt y4.heap.size) _ (λ _=>gb) ?_;clear Aj;simp only[sA];refine pG 12 8 ?_;refine dG ?_;go_wp2_with fail;go_meet;refine⟨_,rfl,_,_,_,_,_,_,_,BC _ _ _ _ _ _ _ _ _ _ _ _ (by exact zv _ _ _) (Ac.own gb (Ac.own ((g3).trans g4) CQ)) ((Cr.grew ((zr (λ _=>False) _))).grew gb) (Ac.own gb (Ac.own ((zr (λ _=>False) _)) E6)) ((bU.grew (((g2).trans g3).trans g4)).grew gb) ((bD.grew (g4)).grew gb) ?_ ?_ ?_ ?_ ?_ ?_ ?_,?_⟩;all_goals first
      | (exact(((gz.trans g1).trans g2).trans g3).trans g4 |>.trans gb)
      | (have z0:=gz.size;have z1:=g1.size;have z2:=g2.size;have z3:=g3.size;have z4:=g4.size;have q1:=bU.lt;have q2:=bD.lt;have zz:=iC.out;omega)
   ·skip;go_simp;obtain⟨y2,DC,g2⟩:=zg y1 (.cells (madeCells #[B_ none 0 0] N) 26);have bD:Am y2 (A_ y1).size 26 (madeCells #[B_ none 0 0] N):=by rw[<- DC];exact zv _ _ _
    rw[DC];refine Aj (.slice (some ⟨(A_ y1).size,0,none⟩) N N) _ (λ _=>g2) ?_;clear Aj;simp only[sA];refine sG 1 27 (λ K Aj=>?_);go_simp;refine(HCg.out _ (((gz).trans g1).trans g2)).mono ?_;rintro e y3 ⟨e1,rfl,CQ,g3⟩;obtain⟨A1,c1,rfl⟩:=Ap CQ;show K _ _;refine Aj (.agg #[i64 N,.slice A1 es.length c1]) _ (λ _=>g3) ?_;clear Aj;simp only[sA];refine sG 3 29 (λ K Aj=>?_);go_simp;refine(lI.out _ ((((gz).trans g1).trans g2).trans g3)).mono ?_;rintro e y4 ⟨v1,v2,rfl,Cr,E6,g4⟩;obtain⟨A2,c2,rfl⟩:=Ap Cr;obtain⟨A3,c3,rfl⟩:=Ap E6;show K _ _;refine Aj (.agg #[.slice A2 rk.length c2,.slice A3 ss.length c3]) _ (λ _=>g4) ?_;clear Aj;simp only[sA];refine pG 10 36 ?_;refine sG 11 37 (λ K Aj=>?_);go_simp;have gb:Ac y4 (y4.alloc (.cells #[i64 N,.slice A1 es.length c1,.slice A2 rk.length c2,.slice A3 ss.length c3,.slice (some ⟨(A_ y0).size,0,none⟩) N N,.slice (some ⟨(A_ y1).size,0,none⟩) N N] 119)):=(zr _ _).alloc _;refine Aj (pt y4.heap.size) _ (λ _=>gb) ?_;clear Aj;simp only[sA];refine pG 12 8 ?_;refine dG ?_;go_wp2_with fail;go_meet;refine⟨_,rfl,_,_,_,_,_,_,_,BC _ _ _ _ _ _ _ _ _ _ _ _ (by exact zv _ _ _) (Ac.own gb (Ac.own (g4) CQ)) ((Cr.grew ((zr (λ _=>False) _))).grew gb) (Ac.own gb (Ac.own ((zr (λ _=>False) _)) E6)) ((bU.grew (((g2).trans g3).trans g4)).grew gb) ((bD.grew ((g3).trans g4)).grew gb) ?_ ?_ ?_ ?_ ?_ ?_ ?_,?_⟩;all_goals first
     | (exact(((gz.trans g1).trans g2).trans g3).trans g4 |>.trans gb)
     | (have z0:=gz.size;have z1:=g1.size;have z2:=g2.size;have z3:=g3.size;have z4:=g4.size;have q1:=bU.lt;have q2:=bD.lt;have zz:=iC.out;omega)
  ·skip;go_simp;obtain⟨y1,Br,g1⟩:=zg y0 (.cells (madeCells #[B_ none 0 0] N) 26);have bD:Am y1 (A_ y0).size 26 (madeCells #[B_ none 0 0] N):=by rw[<- Br];exact zv _ _ _
   rw[Br];refine Aj (.slice (some ⟨(A_ y0).size,0,none⟩) N N) _ (λ _=>g1) ?_;clear Aj;simp only[sA];refine AP 1 27 6 32 rfl rfl (by kernel_rfl) rfl rfl (by rfl) (by rfl) (λ K Aj=>?_) (λ K Aj=>?_)
   ·skip;go_simp;refine(HCg.out _ ((gz).trans g1)).mono ?_;rintro e y2 ⟨e1,rfl,CQ,g2⟩;obtain⟨A1,c1,rfl⟩:=Ap CQ;show K _ _;refine Aj (.agg #[i64 N,.slice A1 es.length c1]) _ (λ _=>g2) ?_;clear Aj;simp only[sA];refine AP 3 29 6 32 rfl rfl (by kernel_rfl) rfl rfl (by rfl) (by rfl) (λ K Aj=>?_) (λ K Aj=>?_)
    ·skip;go_simp;refine(lI.out _ (((gz).trans g1).trans g2)).mono ?_;rintro e y3 ⟨v1,v2,rfl,Cr,E6,g3⟩;obtain⟨A2,c2,rfl⟩:=Ap Cr;obtain⟨A3,c3,rfl⟩:=Ap E6;show K _ _;refine Aj (.agg #[.slice A2 rk.length c2,.slice A3 ss.length c3]) _ (λ _=>g3) ?_;clear Aj;simp only[sA];refine sG 6 32 (λ K Aj=>?_);go_simp;obtain⟨y4,Fs,g4⟩:=zg y3 (.cells (madeCells #[B_ none 0 0] N) 26);have bU:Am y4 (A_ y3).size 26 (madeCells #[B_ none 0 0] N):=by rw[<- Fs];exact zv _ _ _
     rw[Fs];refine Aj (.slice (some ⟨(A_ y3).size,0,none⟩) N N) _ (λ _=>g4) ?_;clear Aj;simp only[sA];refine pG 10 36 ?_;refine sG 11 37 (λ K Aj=>?_);go_simp;have gb:Ac y4 (y4.alloc (.cells #[i64 N,.slice A1 es.length c1,.slice A2 rk.length c2,.slice A3 ss.length c3,.slice (some ⟨(A_ y3).size,0,none⟩) N N,.slice (some ⟨(A_ y0).size,0,none⟩) N N] 119)):=(zr _ _).alloc _;refine Aj (pt y4.heap.size) _ (λ _=>gb) ?_;clear Aj;simp only[sA];refine pG 12 8 ?_;refine dG ?_;go_wp2_with fail;go_meet;refine⟨_,rfl,_,_,_,_,_,_,_,BC _ _ _ _ _ _ _ _ _ _ _ _ (by exact zv _ _ _) (Ac.own gb (Ac.own ((g3).trans g4) CQ)) ((Cr.grew (g4)).grew gb) (Ac.own gb (Ac.own (g4) E6)) ((bU.grew ((zr (λ _=>False) _))).grew gb) ((bD.grew (((g2).trans g3).trans g4)).grew gb) ?_ ?_ ?_ ?_ ?_ ?_ ?_,?_⟩;all_goals first
      | (exact(((gz.trans g1).trans g2).trans g3).trans g4 |>.trans gb)
      | (have z0:=gz.size;have z1:=g1.size;have z2:=g2.size;have z3:=g3.size;have z4:=g4.size;have q1:=bU.lt;have q2:=bD.lt;have zz:=iC.out;omega)
    ·skip;go_simp;obtain⟨y3,DQ,g3⟩:=zg y2 (.cells (madeCells #[B_ none 0 0] N) 26);have bU:Am y3 (A_ y2).size 26 (madeCells #[B_ none 0 0] N):=by rw[<- DQ];exact zv _ _ _
     rw[DQ];refine Aj (.slice (some ⟨(A_ y2).size,0,none⟩) N N) _ (λ _=>g3) ?_;clear Aj;simp only[sA];refine sG 3 29 (λ K Aj=>?_);go_simp;refine(lI.out _ ((((gz).trans g1).trans g2).trans g3)).mono ?_;rintro e y4 ⟨v1,v2,rfl,Cr,E6,g4⟩;obtain⟨A2,c2,rfl⟩:=Ap Cr;obtain⟨A3,c3,rfl⟩:=Ap E6;show K _ _;refine Aj (.agg #[.slice A2 rk.length c2,.slice A3 ss.length c3]) _ (λ _=>g4) ?_;clear Aj;simp only[sA];refine pG 10 36 ?_;refine sG 11 37 (λ K Aj=>?_);go_simp;have gb:Ac y4 (y4.alloc (.cells #[i64 N,.slice A1 es.length c1,.slice A2 rk.length c2,.slice A3 ss.length c3,.slice (some ⟨(A_ y2).size,0,none⟩) N N,.slice (some ⟨(A_ y0).size,0,none⟩) N N] 119)):=(zr _ _).alloc _;refine Aj (pt y4.heap.size) _ (λ _=>gb) ?_;clear Aj;simp only[sA];refine pG 12 8 ?_;refine dG ?_;go_wp2_with fail;go_meet;refine⟨_,rfl,_,_,_,_,_,_,_,BC _ _ _ _ _ _ _ _ _ _ _ _ (by exact zv _ _ _) (Ac.own gb (Ac.own ((g3).trans g4) CQ)) ((Cr.grew ((zr (λ _=>False) _))).grew gb) (Ac.own gb (Ac.own ((zr (λ _=>False) _)) E6)) ((bU.grew (g4)).grew gb) ((bD.grew (((g2).trans g3).trans g4)).grew gb) ?_ ?_ ?_ ?_ ?_ ?_ ?_,?_⟩;all_goals first
      | (exact(((gz.trans g1).trans g2).trans g3).trans g4 |>.trans gb)
      | (have z0:=gz.size;have z1:=g1.size;have z2:=g2.size;have z3:=g3.size;have z4:=g4.size;have q1:=bU.lt;have q2:=bD.lt;have zz:=iC.out;omega)
   ·skip;go_simp;obtain⟨y2,DC,g2⟩:=zg y1 (.cells (madeCells #[B_ none 0 0] N) 26);have bU:Am y2 (A_ y1).size 26 (madeCells #[B_ none 0 0] N):=by rw[<- DC];exact zv _ _ _
    rw[DC];refine Aj (.slice (some ⟨(A_ y1).size,0,none⟩) N N) _ (λ _=>g2) ?_;clear Aj;simp only[sA];refine sG 1 27 (λ K Aj=>?_);go_simp;refine(HCg.out _ (((gz).trans g1).trans g2)).mono ?_;rintro e y3 ⟨e1,rfl,CQ,g3⟩;obtain⟨A1,c1,rfl⟩:=Ap CQ;show K _ _;refine Aj (.agg #[i64 N,.slice A1 es.length c1]) _ (λ _=>g3) ?_;clear Aj;simp only[sA];refine sG 3 29 (λ K Aj=>?_);go_simp;refine(lI.out _ ((((gz).trans g1).trans g2).trans g3)).mono ?_;rintro e y4 ⟨v1,v2,rfl,Cr,E6,g4⟩;obtain⟨A2,c2,rfl⟩:=Ap Cr;obtain⟨A3,c3,rfl⟩:=Ap E6;show K _ _;refine Aj (.agg #[.slice A2 rk.length c2,.slice A3 ss.length c3]) _ (λ _=>g4) ?_;clear Aj;simp only[sA];refine pG 10 36 ?_;refine sG 11 37 (λ K Aj=>?_);go_simp;have gb:Ac y4 (y4.alloc (.cells #[i64 N,.slice A1 es.length c1,.slice A2 rk.length c2,.slice A3 ss.length c3,.slice (some ⟨(A_ y1).size,0,none⟩) N N,.slice (some ⟨(A_ y0).size,0,none⟩) N N] 119)):=(zr _ _).alloc _;refine Aj (pt y4.heap.size) _ (λ _=>gb) ?_;clear Aj;simp only[sA];refine pG 12 8 ?_;refine dG ?_;go_wp2_with fail;go_meet;refine⟨_,rfl,_,_,_,_,_,_,_,BC _ _ _ _ _ _ _ _ _ _ _ _ (by exact zv _ _ _) (Ac.own gb (Ac.own (g4) CQ)) ((Cr.grew ((zr (λ _=>False) _))).grew gb) (Ac.own gb (Ac.own ((zr (λ _=>False) _)) E6)) ((bU.grew ((g3).trans g4)).grew gb) ((bD.grew (((g2).trans g3).trans g4)).grew gb) ?_ ?_ ?_ ?_ ?_ ?_ ?_,?_⟩;all_goals first
     | (exact(((gz.trans g1).trans g2).trans g3).trans g4 |>.trans gb)
     | (have z0:=gz.size;have z1:=g1.size;have z2:=g2.size;have z3:=g3.size;have z4:=g4.size;have q1:=bU.lt;have q2:=bD.lt;have zz:=iC.out;omega)
 case rest =>
  obtain⟨H,rfl,v1,v2,v3,U,D,us0,ds0,hH,gH⟩:=hcut;obtain⟨q0,q1,q2,q3⟩:=HC.out wc gH;have HW:=zh (λ (w':F_) (k:Ac w5 w')=>HC.out w' k);have HA:=BP hH gH;have HIN:=zh (pC HH.out.1 H0.out.2.2.2.2);obtain⟨ii,hii,tw,tz,tA⟩:=info_parts info_int;clear HCg lI HC gz hH gH Mv;go_wp2_with fail;clear q0 q1 q2 q3;go_loopw [41] (λ i wr=>∃ (k:Nat) (us ds:List G_),k<=ss.length/\i=.int .i64 k/\Hid (Cb wr H w5.heap.size N es rk ss k v1 v2 v3 U D us ds/\Ac w5 wr)) (λ i _=>ss.length-(intOf i).toNat)
  case atStart=>exact⟨0,_,_,by omega,rfl,HA⟩
  case round =>
   clear HA;obtain⟨k,us,ds,hk,rfl,hS⟩:=hrel;obtain⟨q0,q1,q2,q3⟩:=HW.out wr hS.out.2;by_cases AH:k<ss.length
   ·have Ly:(k:Int)<(ss.length:Int):=(by omega);have Fj:(0:Int)<=(k:Int):=(by omega);obtain⟨s,hs⟩:∃ x,ss[k]? = some x:=⟨_,zq AH⟩;obtain⟨b,off,hA,hb,e0,e1,e2,e3,e4,e5⟩:=(EW.kept H0.out.2.2.2.1 (G5.out.trans hS.out.2) (λ _ _ h=>h)) k s hs;subst hA;have BF:=HIN.out s (zm hs);obtain⟨p,hp⟩:∃ z:Nat,s.from'=(z:Int):=⟨s.from'.toNat,by unfold inN at BF;omega⟩;obtain⟨q,hq⟩:∃ z:Nat,s.to'=(z:Int):=⟨s.to'.toNat,by unfold inN at BF;omega⟩;rw[hp]at e0;rw[hq]at e1;have rR:p<N:=by unfold inN at BF;omega
    have hqN:q<N:=by unfold inN at BF;omega
    have dV:rk.length=N:=by have:=H0.out.2.2.2.2.1;omega
    obtain⟨x,hx⟩:=zx (l:=rk) (i:=p) (by omega);obtain⟨y,hy⟩:=zx (l:=rk) (i:=q) (by omega);obtain⟨c0,cc,cs0,n0,hcx⟩:∃ c0 cc cs0 n0,(c0,cc,cs0,n0)=(0,0,0,0):=⟨_,_,_,_,rfl⟩;obtain⟨wa,rT,ga,bA⟩:=zb wr #[i64 p,i64 q,.int .u64 s.w,i64 s.edge,i64 s.a,i64 s.b] 150 rfl;have a0:=bA.cell 0;have a1:=bA.cell 1;simp at a0 a1;have lP:=hS.out.1.kept ga (λ _ _ h=>h);have h4:=lP.blk.cell 4;have h5:=lP.blk.cell 5;simp at h4 h5;have x1:=hx;obtain⟨b1,o1,rF,Fq,r0⟩:=(H0.out.2.2.1.grew ((G5.out.trans hS.out.2).trans ga)) p x hx;obtain⟨b2,o2,N7,FY,r1⟩:=(H0.out.2.2.1.grew ((G5.out.trans hS.out.2).trans ga)) q y hy;subst rF;obtain⟨rfl,rfl⟩:b1=b2/\o1=o2:=(by simpa using N7);obtain⟨p0,p1,p2,p3⟩:=HW.out wa (hS.out.2.trans ga);have vZ:(0:Int)<=(p:Int):=(by omega);have ET:(p:Int)<(rk.length:Int):=(by omega);have hq0:(0:Int)<=(q:Int):=(by omega);have cD:(q:Int)<(rk.length:Int):=(by omega);have Jq:(p:Int)<(N:Int):=(by omega);have fU:(q:Int)<(N:Int):=(by omega);have hsl:ss.length<=100000:=HH.out.2.2.2;clear N7 bA hcx dV;by_cases Kt:y<x
    ·go_upto_region 10 with fail;obtain⟨vv,hv⟩:=zx (l:=ds) (i:=q) (by have:=hS.out.1.dl;omega);have ho:=lP.dr q vv hv;obtain⟨n,hn⟩:=zn ((cd rk ss k q).length);have hnk:n<=k:=by rw[<- hn];exact fy _ _ _ _
     obtain⟨Av,cv,rfl⟩:=Ap ho;have hcv:=gL ho;rw[hn]at ho hv hcv;have u0:=lP.db.cell q;rw[J_,hv]at u0;have u1:=lP.db.frozen q;have hcv':(n:Int)<=(cv:Int):=(by omega);have hn0:(0:Int)<=(n:Int):=(by omega);have hup:Hid (cF rk s=false):=by
      show _=_
      unfold cF
      rw[hp,hq,I_,I_,Ph,Ph,hx,hy]
      simp only[Option.getD_some]
      simp[Kt]
     have HO:=JQ ho hn lP hs hq (hS.out.2.trans ga);clear ho hn lP hv hS hp hq hx hy hs ga rT x1;go_quiet (fail);obtain⟨nq1,oK⟩:=zn (nq);rw[oK];clear oK nq;go_upto_region 11 with fail;go_quiet (fail);obtain⟨nq2,oL⟩:=zn (nq);rw[oL];clear oL nq;go_upto_region 12 with fail;go_quiet (fail);obtain⟨nq3,hnq3⟩:=zn (nq);rw[hnq3];clear hnq3 nq;obtain⟨wq,zF⟩:=zn (((wa.drewN nq1).drewN nq2).drewN nq3);have gq:Ac wa wq:=by rw[<- zF];exact(((zr _ _).drewN _).drewN _).drewN _
     rw[zF];clear zF;obtain⟨wb,o7,gb,bb⟩:=zb wq #[.int .i64 k] 3 rfl;have gab:=gq.trans gb;have z0:wq.cell? ⟨D,q,none⟩=some (.slice Av n cv):=ze gq u0;have HB:=BP gab bb;clear gab bb gb gq;go_wp2_with (first
      | (at_builtin
         refine Em rfl (.tmp 82) (.tmp 84) (by rfl) w5.heap.size Av n cv _ HO.out.2.1 (HO.out.1.grew HB.out.1) ⟨wq.heap.size,0,none⟩ (k:Int) (HB.out.2.cell 0) (by have:=HH.out.2.2.2;omega) (by rfl) (by rfl) ?_
         intro v9 w9 oM g9
         obtain⟨A9,c9,tV⟩:=Ap oM
         obtain⟨m9,hm9⟩:=zn ((cd rk ss k q++[(k:Int)]).length)
         rw[hm9]at tV
         subst tV
         clear hm9
         have jq:=HO.out.2.2.1.kept (HB.out.1.trans g9) (λ _ _ h=>h)
         have t0:=(jq.db.cell q)
         have t1:=(jq.db.frozen q)
         rw[J_]at t0
         obtain⟨vv',hv'⟩:∃ v,ds[q]? = some v:=⟨_,zq (by have:=jq.dl;omega)⟩
         rw[hv']at t0
         have BZ:Hid (Cb (w9.setCell ⟨D,q,none⟩ (.slice A9 m9 c9)) H w5.heap.size N es rk ss (k+1) v1 v2 v3 U D us (ds.set q (.slice A9 m9 c9))/\Ac w5 (w9.setCell ⟨D,q,none⟩ (.slice A9 m9 c9))) :=
          ⟨jq.toDn HO.out.2.2.2.1 hqN HO.out.2.2.2.2.1 hup.out (Az oM (Pg HO.out.2.2.2.2.2.size HB.out.1.size)),((HO.out.2.2.2.2.2.trans HB.out.1).trans g9).setCell (.inr jq.base.2.2) _⟩
         clear jq oM g9))
     go_wp2_with fail;go_roundw
     case rel=>first | exact⟨k+1,us,ds.set q (.slice A9 m9 c9),by omega,by go_num,BZ⟩ | ((repeat apply Exists.intro);exact⟨⟨k+1,us,ds.set q (.slice A9 m9 c9),by omega,by go_num,BZ⟩,rfl⟩)
     case measure=>simp[intOf];omega
    ·go_upto_region 10 with fail;obtain⟨vv,hv⟩:=zx (l:=us) (i:=p) (by have:=hS.out.1.ul;omega);have ho:=lP.ur p vv hv;obtain⟨n,hn⟩:=zn ((cH rk ss k p).length);have hnk:n<=k:=by rw[<- hn];exact ij _ _ _ _
     obtain⟨Av,cv,rfl⟩:=Ap ho;have hcv:=gL ho;rw[hn]at ho hv hcv;have u0:=lP.ub.cell p;rw[J_,hv]at u0;have u1:=lP.ub.frozen p;have hcv':(n:Int)<=(cv:Int):=(by omega);have hn0:(0:Int)<=(n:Int):=(by omega);have hup:Hid (cF rk s=true):=by
      show _=_
      unfold cF
      rw[hp,hq,I_,I_,Ph,Ph,hx,hy]
      simp only[Option.getD_some]
      simp[Kt]
     have HO:=JQ ho hn lP hs hp (hS.out.2.trans ga);clear ho hn lP hv hS hp hq hx hy hs ga rT x1;go_quiet (fail);obtain⟨nq1,oK⟩:=zn (nq);rw[oK];clear oK nq;go_upto_region 11 with fail;go_quiet (fail);obtain⟨nq2,oL⟩:=zn (nq);rw[oL];clear oL nq;skip;obtain⟨wq,zF⟩:=zn ((wa.drewN nq1).drewN nq2);have gq:Ac wa wq:=by rw[<- zF];exact((zr _ _).drewN _).drewN _
     rw[zF];clear zF;obtain⟨wb,o7,gb,bb⟩:=zb wq #[.int .i64 k] 3 rfl;have gab:=gq.trans gb;have z0:wq.cell? ⟨U,p,none⟩=some (.slice Av n cv):=ze gq u0;have HB:=BP gab bb;clear gab bb gb gq;go_wp2_with (first
      | (at_builtin
         refine Em rfl (.tmp 82) (.tmp 84) (by rfl) w5.heap.size Av n cv _ HO.out.2.1 (HO.out.1.grew HB.out.1) ⟨wq.heap.size,0,none⟩ (k:Int) (HB.out.2.cell 0) (by have:=HH.out.2.2.2;omega) (by rfl) (by rfl) ?_
         intro v9 w9 oM g9
         obtain⟨A9,c9,tV⟩:=Ap oM
         obtain⟨m9,hm9⟩:=zn ((cH rk ss k p++[(k:Int)]).length)
         rw[hm9]at tV
         subst tV
         clear hm9
         have jq:=HO.out.2.2.1.kept (HB.out.1.trans g9) (λ _ _ h=>h)
         have t0:=(jq.ub.cell p)
         have t1:=(jq.ub.frozen p)
         rw[J_]at t0
         obtain⟨vv',hv'⟩:∃ v,us[p]? = some v:=⟨_,zq (by have:=jq.ul;omega)⟩
         rw[hv']at t0
         have BZ:Hid (Cb (w9.setCell ⟨U,p,none⟩ (.slice A9 m9 c9)) H w5.heap.size N es rk ss (k+1) v1 v2 v3 U D (us.set p (.slice A9 m9 c9)) ds/\Ac w5 (w9.setCell ⟨U,p,none⟩ (.slice A9 m9 c9))) :=
          ⟨jq.toUp HO.out.2.2.2.1 rR HO.out.2.2.2.2.1 hup.out (Az oM (Pg HO.out.2.2.2.2.2.size HB.out.1.size)),((HO.out.2.2.2.2.2.trans HB.out.1).trans g9).setCell (.inr jq.base.2.1) _⟩
         clear jq oM g9))
     go_wp2_with fail;go_roundw
     case rel=>first | exact⟨k+1,us.set p (.slice A9 m9 c9),ds,by omega,by go_num,BZ⟩ | ((repeat apply Exists.intro);exact⟨⟨k+1,us.set p (.slice A9 m9 c9),ds,by omega,by go_num,BZ⟩,rfl⟩)
     case measure=>simp[intOf];omega
   ·obtain rfl:k=ss.length:=(by omega);have HF:Hid (Ca wr H w.heap.size N es rk ss/\Ac w wr):=⟨by
     obtain⟨h,g⟩:=hS.out
     have hb:=iC.out
     exact⟨v1,v2,v3,U,D,us,ds,{ h with edg:=Az h.edg (by omega),rank:=Az h.rank (by omega),cuts:=Az h.cuts (by omega),ur:=λ u v hv=>Az (h.ur u v hv) (by omega),dr:=λ u v hv=>Az (h.dr u v hv) (by omega),base:=⟨by have:=h.base.1;omega,by have:=h.base.2.1;omega,by have:=h.base.2.2;omega⟩ }⟩,(H0.out.1.trans G5.out).trans hS.out.2⟩
    clear hS;go_wp2_with fail;go_ret2;exact⟨_,rfl,HF.out⟩
theorem Ca.down {w:F_} {H B B' N:Nat} {es:List AB} {rk:List Int} {ss:List Sc} (h:Ca w H B N es rk ss) (hb:B'<=B):Ca w H B' N es rk ss:=by
 obtain⟨v1,v2,v3,U,D,us,ds,h⟩:=h;exact⟨v1,v2,v3,U,D,us,ds,{ h with edg:=Az h.edg hb,rank:=Az h.rank hb,cuts:=Az h.cuts hb,ur:=λ u v hv=>Az (h.ur u v hv) hb,dr:=λ u v hv=>Az (h.dr u v hv) hb,base:=⟨Pg hb h.base.1,Pg hb h.base.2.1,Pg hb h.base.2.2⟩ }⟩
theorem Kh (A Rk:Option Addr) (c N cr:Nat) (es:List AB) (rk:List Int) (hops settles:Int) (w:F_) (h:Bj w A es) (hr:Aq N es=0) (hl:es.length<=800) (hN:N<=12) (hR:RowI w Rk rk) (Ba:Bq rk) (hlen:rk=[]\/rk.length=N) (h1:1<=hops/\hops<=1000) (h2:1<=settles/\settles<=1000) :
  H_ D_ 137 #[.agg #[i64 N,.slice A es.length c],.agg #[i64 hops,i64 settles,.slice Rk rk.length cr]] w λ e w'=>∃ H rk' ss out,e=.returned (.tuple #[pt H,i64 0])/\Ca w' H w.heap.size N es rk' ss/\lJ N es rk' ss out/\(rk=rk'\/rk=[])/\Ac w w':=by
 have bN:Am (w.alloc (.cells #[i64 N,.slice A es.length c] 24)) w.heap.size 24 #[i64 N,.slice A es.length c]:=zv _ _ _
 obtain⟨w1,AQ,g1⟩:=zg w (.cells #[i64 N,.slice A es.length c] 24)
 have s1:w1.heap.size=w.heap.size+1:=by rw[<- AQ];simp
 rw[AQ]at bN
 have bO:Am (w1.alloc (.cells #[i64 hops,i64 settles,.slice Rk rk.length cr] 70)) w1.heap.size 70 #[i64 hops,i64 settles,.slice Rk rk.length cr]:=zv _ _ _
 have g12:Ac w1 (w1.alloc (.cells #[i64 hops,i64 settles,.slice Rk rk.length cr] 70)):=(zr _ _).alloc _
 obtain⟨w2,BM⟩:=zn (w1.alloc (.cells #[i64 hops,i64 settles,.slice Rk rk.length cr] 70))
 rw[BM]at bO g12
 have g2:=g1.trans g12
 have HB:=zh (iW A Rk c N cr es rk hops settles w2 (h.grew g2) hr hl hN (hR.grew g2) Ba hlen h1 h2)
 have H0:=JQ g2 h hr hl (bN.grew g12) g2.size
 have x0:=(bN.grew g12).cell 0
 have x1:=(bN.grew g12).cell 1
 have y0:=bO.cell 0
 have y1:=bO.cell 1
 have y2:=bO.cell 2
 simp at x0 x1 y0 y1 y2
 clear bN bO g1 g12 g2 s1 h hr hl hR Ba hlen h1 h2
 go_enter Tryz.func137,Tryz.ntmps137
 go_wp2_with fail
 refine HB.out.mono ?_
 rintro e w3 ⟨rv,cv,rk',ss,out,rfl,CQ,Cr,Ko,IK,g3⟩
 obtain⟨A1,c1,rfl,Ob⟩:=CQ.row
 obtain⟨A2,c2,rfl,Kq,Jp⟩:=Cr.row
 obtain⟨n1,EI⟩:=zn (rk'.length)
 obtain⟨n2,Hv⟩:=zn (ss.length)
 obtain⟨w4,D6,g4,b4⟩:=zb w3 #[.slice A1 n1 c1,.slice A2 n2 c2] 87 rfl
 obtain⟨gg,CW⟩:=Ko.st
 have Od:=CW.lenS hN H0.out.2.2.2.1
 have HN:=zh (oJ A A1 A2 c N c1 c2 es rk' ss w4 ((H0.out.2.1.grew H0.out.1).grew (g3.trans g4)) (Ob.grew g4) (Kq.kept g4 (λ _ _ h=>h)) (by have:=H0.out.2.2.2.1;omega) (by rw[Ko.rlen];omega) (by omega) Jp H0.out.2.2.1 (Ko.made (by omega)) (by omega))
 rw[EI,Hv]at HN ⊢
 have HE:=DS Ko IK ((H0.out.1.trans g3).trans g4) (Pg H0.out.2.2.2.2.2 (g3.trans g4).size)
 have x0:=(H0.out.2.2.2.2.1.grew (g3.trans g4)).cell 0
 have x1:=(H0.out.2.2.2.2.1.grew (g3.trans g4)).cell 1
 have z0:=b4.cell 0
 have z1:=b4.cell 1
 simp at x0 x1 z0 z1
 clear HB CQ Cr Ko IK g3 g4 b4 Ob Kq Jp EI Hv CW Od H0
 go_wp2_with fail
 refine HN.out.mono ?_
 rintro e w5 ⟨H,rfl,hH,g5⟩
 have HF:=DS (hH.down HE.out.2.2.2) HE.out.1 HE.out.2.1 (HE.out.2.2.1.trans g5)
 clear HN HE hH g5
 go_wp2_with fail
 go_ret2
 exact⟨_,_,_,_,rfl,HF.out⟩
section
variable {w:F_} {H B N:Nat} {es:List AB} {rk:List Int} {ss:List Sc}
theorem FH (h:Ca w H B N es rk ss) (GM:rk.length<=100000) (DY:ss.length<=100000) :
  H_ D_ 32 #[pt H] w λ e w'=>∃ v1 v2,e=.returned (.agg #[v1,v2])/\AO w' w.heap.size v1 rk/\Fz w' w.heap.size v2 ss/\Ac w w':=by
 obtain⟨v1,v2,v3,U,D,us,ds,h⟩:=h
 obtain⟨Ar,cr,rfl,hr⟩:=h.rank.row
 obtain⟨As,cs,rfl,hs,Et⟩:=h.cuts.row
 have bR:Am (w.alloc (.cells #[.slice none 0 0,.slice none 0 0] 87)) w.heap.size 87 #[.slice none 0 0,.slice none 0 0]:=zv _ _ _
 obtain⟨w1,AQ,g1⟩:=zg w (.cells #[.slice none 0 0,.slice none 0 0] 87)
 have s1:w1.heap.size=w.heap.size+1:=by rw[<- AQ];simp
 rw[AQ]at bR
 have HC:=zh (Ki Ar As cr cs rk ss w1 (hr.grew g1) (hs.kept g1 (λ _ _ h=>h)) GM DY)
 have b1:=h.blk.grew g1
 have x2:=b1.cell 2
 have x3:=b1.cell 3
 simp at x2 x3
 obtain⟨n1,EI⟩:=zn (rk.length)
 obtain⟨n2,Hv⟩:=zn (ss.length)
 rw[EI]at HC x2
 rw[Hv]at HC x3
 have H0:=DS bR g1 EI Hv
 have LI:=zh s1
 clear bR g1 s1 b1 h hr hs Et GM DY EI Hv
 go_enter Tryz.func32,Tryz.ntmps32
 go_wp2_with fail
 refine HC.out.mono ?_
 rintro e w2 ⟨p1,p2,rfl,CQ,Cr,g2⟩
 obtain⟨A1,c1,ET⟩:=Ap CQ
 obtain⟨A2,c2,Jq⟩:=Ap Cr
 rw[H0.out.2.2.1]at ET
 rw[H0.out.2.2.2]at Jq
 subst ET Jq
 have hb:=H0.out.1.grew g2
 obtain⟨t5,t6⟩:=F3 hb (.slice A1 n1 c1) (.slice A2 n2 c2)
 have z0:=hb.frozen 0
 have z1:=(hb.set 0 (.slice A1 n1 c1)).frozen 1
 have z2:=hb.cell 0
 have z3:=(hb.set 0 (.slice A1 n1 c1)).cell 1
 have q0:=t5.cell 0
 have q1:=t5.cell 1
 simp at z2 z3 q0 q1
 have HF:=zh (show _/\_/\_ from ⟨Az (CQ.kept t6 (λ j hj lT=>by
   have h1:=(Ao CQ hj).1;have h2:=LI.out;omega)) (show w.heap.size<=w1.heap.size from H0.out.2.1.size),Az (Kept.own t6 Cr (λ j hj lT=>by
   have h1:=(Ao Cr hj).1;have h2:=LI.out;omega)) (show w.heap.size<=w1.heap.size from H0.out.2.1.size),((H0.out.2.1.trans g2).then t6 (λ i hi h=>by omega):Ac w _)⟩)
 clear HC H0 LI CQ Cr g2 hb t5 t6
 go_wp2_with fail
 exact zy (v:=.agg #[.slice A1 n1 c1,.slice A2 n2 c2]) (by simp[results,Tryz.results32,go_sem,q0,q1]) rfl ⟨_,_,rfl,HF.out⟩
theorem dD (h:Ca w H B N es rk ss) (hle:es.length<=100000) :
  H_ D_ 147 #[pt H] w λ e w'=>∃ v,e=.returned (.agg #[i64 N,v])/\Bc w' w.heap.size v es/\Ac w w':=by
 obtain⟨v1,v2,v3,U,D,us,ds,h⟩:=h
 obtain⟨A,c,rfl,hr⟩:=h.edg.row
 have bR:Am (w.alloc (.cells #[i64 0,.slice none 0 0] 24)) w.heap.size 24 #[i64 0,.slice none 0 0]:=zv _ _ _
 obtain⟨w1,AQ,g1⟩:=zg w (.cells #[i64 0,.slice none 0 0] 24)
 have s1:w1.heap.size=w.heap.size+1:=by rw[<- AQ];simp
 rw[AQ]at bR
 have HC:=zh (C4 (N:Int) A c es w1 (hr.grew g1) hle)
 have b1:=h.blk.grew g1
 have x0:=b1.cell 0
 have x1:=b1.cell 1
 simp at x0 x1
 obtain⟨n1,EI⟩:=zn (es.length)
 rw[EI]at HC x1
 have H0:=DK bR g1 EI
 have LI:=zh s1
 clear bR g1 s1 b1 h hr hle EI
 go_enter Tryz.func147,Tryz.ntmps147
 go_wp2_with fail
 refine HC.out.mono ?_
 rintro e w2 ⟨p1,rfl,CQ,g2⟩
 obtain⟨A1,c1,ET⟩:=Ap CQ
 rw[H0.out.2.2]at ET
 subst ET
 have hb:=H0.out.1.grew g2
 obtain⟨t5,t6⟩:=F3 hb (i64 N) (.slice A1 n1 c1)
 have z0:=hb.frozen 0
 have z1:=(hb.set 0 (i64 N)).frozen 1
 have z2:=hb.cell 0
 have z3:=(hb.set 0 (i64 N)).cell 1
 have q0:=t5.cell 0
 have q1:=t5.cell 1
 simp at z2 z3 q0 q1
 have HF:=zh (show _/\_ from ⟨(Az (Kept.own t6 CQ (λ j hj lT=>by
   have h1:=(Ao CQ hj).1;have h2:=LI.out;omega)) (show w.heap.size<=w1.heap.size from H0.out.2.1.size):Bc _ w.heap.size _ es),((H0.out.2.1.trans g2).then t6 (λ i hi h=>by omega):Ac w _)⟩)
 clear HC H0 LI CQ g2 hb t5 t6
 go_wp2_with fail
 exact zy (v:=.agg #[i64 N,.slice A1 n1 c1]) (by simp[results,Tryz.results147,go_sem,q0,q1]) rfl ⟨_,rfl,HF.out⟩
theorem GG (h:Ca w H B N es rk ss):H_ D_ 212 #[pt H] w λ e w'=>e=.returned (i64 N)/\w'=w:=by
 obtain⟨v1,v2,v3,U,D,us,ds,h⟩:=h;have x0:=h.blk.cell 0;simp at x0;clear h;go_enter Tryz.func212,Tryz.ntmps212;go_wp2_with fail;go_ret;exact⟨rfl,rfl⟩
theorem jr (h:Ca w H B N es rk ss):H_ D_ 428 #[pt H] w λ e w'=>e=.returned (i64 ss.length)/\w'=w:=by
 obtain⟨v1,v2,v3,U,D,us,ds,h⟩:=h;obtain⟨As,cs,rfl,hs,Et⟩:=h.cuts.row;have x0:=h.blk.cell 3;simp at x0;clear h hs Et;go_enter Tryz.func428,Tryz.ntmps428;go_wp2_with fail;go_ret;exact⟨rfl,rfl⟩
end
end Go.Proofs.YtepelooebggliaaGreatDoor
