/- Walks of functions that the law reaches, and plain laws, part 17 of 21: lemmas for the proof in the last text; no condition. Shortened by program. -/
import Derived.BigQuiet
import Derived.Test.YtepelooebggliaaGreatDoorSu0
import Derived.Test.YtepelooebggliaaGreatDoorSu4
import Derived.Test.YtepelooebggliaaGreatDoorSu5
open Go.World renaming size_alloc->A_
open List renaming getElem?_set_self->B_,replicate->C_,getElem?_eq_some_iff->D_,getElem?_set_ne->E_,getElem?_map->F_,length_map->G_
open Go renaming World->H_,Addr->I_
open Go.Proofs.Tryz renaming prog->J_,underlying38->K_
open Option.some renaming inj->L_
set_option maxHeartbeats 16000000
set_option maxRecDepth 100000
set_option linter.unusedVariables false
set_option linter.unusedSimpArgs false
namespace Go.Proofs.YtepelooebggliaaGreatDoor
open Go.RowKit
theorem O9:(J_.info? 29).map (λ i=>(i.zero,i.size,i.bytes))=some (some (.int .u64 0),1,8):=by kernel_rfl
theorem pE (n:Nat):madeCells #[u64 0] n=((C_ n (0:Int)).map u64).toArray:=by
 apply Array.ext
 ·simp[size_madeCells]
 ·intro k h1 h2;simp[madeCells,Nat.mod_one]
theorem fN (x:Int) (w:H_):Calls J_ 37 #[.slice none 0 0,i64 x] w λ e w'=>e=.returned (.bool false)/\w=w':=by
 have h:=KX none 0 [] x w (λ i y hy=>by simp at hy) (by simp);simpa using h
theorem qb {w:H_} {B:Nat} {v:Value} {zs:List Int} (h:w.ownsRow B 29 1 v zs.length (zs.map u64)):∃ A c,v=.slice A zs.length c/\D4 w A zs:=by
 rcases h.2 with ⟨hv,h0⟩ | ⟨g,cap,cur,hv,hb,hg,rest⟩
 ·exact⟨none,0,by rw[hv,h0],λ i z hz=>by rw[List.eq_nil_of_length_eq_zero h0]at hz;simp at hz⟩
 ·refine⟨_,cap,hv,λ i z hz=>⟨g,0,rfl,(Array.getElem?_eq_some_iff.1 hg).1,?_⟩⟩;subst hv;have hi:=(D_.1 hz).1;have:=World.ownsRow.cellAt h i (by omega);rw[Nat.zero_add];rw[this,F_,hz];rfl
theorem five {w:H_} {T:Nat} {t:TypeId} {p0 p1 p2 p3 p4:Value} (h:Am w T t #[p0,p1,p2,p3,p4]):w.cell? ⟨T,0,none⟩=some p0/\w.cell? ⟨T,1,none⟩=some p1/\w.cell? ⟨T,2,none⟩=some p2/\w.cell? ⟨T,3,none⟩=some p3/\w.cell? ⟨T,4,none⟩=some p4:=by
 obtain⟨r0,r1,r2,r3,r4⟩:=LF h;exact⟨r0,r1,r2,r3,r4⟩
theorem DW {w:H_} {T:Nat} {t:TypeId} {p0 p1:Value} (h:Am w T t #[p0,p1]):w.cell? ⟨T,0,none⟩=some p0/\w.cell? ⟨T,1,none⟩=some p1:=by
 obtain⟨r0,r1⟩:=CE h;exact⟨r0,r1⟩
theorem dp (p q a:Int) (w:H_):Calls J_ 39 #[.agg #[i64 p,i64 q,u64 a],.bool false] w λ e w'=>e=.returned (.tuple #[i64 p,i64 q])/\Ac w w':=by
 have b:=zv w 65 #[i64 p,i64 q,u64 a];have c0:=b.cell 0;have c1:=b.cell 1;simp at c0 c1;clear b;go_enter Tryz.func39,Tryz.ntmps39;go_wp2_with fail;go_quiet (fail);all_goals go_wp2
 all_goals go_ret2
 all_goals exact ⟨rfl,((zr _ _).alloc _).drewN _⟩
structure cJ (w:H_) (T:Nat) (n:Int) (A:Option I_) (L c:Nat):Prop where
 gb:Am w T 24 #[i64 n,.slice A L c]
 ob:Am w (T+1) 53 #[.bool false,.slice none 0 0,.slice none 0 0,.slice none 0 0,u64 0]
theorem cJ.kept {F:Nat->Prop} {w w':H_} {T:Nat} {n:Int} {A:Option I_} {L c:Nat} (h:cJ w T n A L c) (k:Kept F w w') (h0:¬ F T) (h1:¬ F (T+1)):cJ w' T n A L c:=⟨h.gb.kept k h0,h.ob.kept k h1⟩
theorem cJ.grew {w w':H_} {T:Nat} {n:Int} {A:Option I_} {L c:Nat} (h:cJ w T n A L c) (k:Ac w w'):cJ w' T n A L c:=h.kept k (λ h=>h) (λ h=>h)
theorem cJ.new (w:H_) (n:Int) (A:Option I_) (L c:Nat):cJ ((w.alloc (.cells #[i64 n,.slice A L c] 24)).alloc (.cells #[.bool false,.slice none 0 0,.slice none 0 0,.slice none 0 0,u64 0] 53)) w.heap.size n A L c:=by
 refine⟨(zv w _ _).alloc _,?_⟩;have:=zv (w.alloc (.cells #[i64 n,.slice A L c] 24)) 53 #[.bool false,.slice none 0 0,.slice none 0 0,.slice none 0 0,u64 0];rw[A_]at this;exact this
theorem cJ.cells {w:H_} {T:Nat} {n:Int} {A:Option I_} {L c i:Nat} {es:List AB} {e:AB} (h:cJ w T n A L c) (hr:Bj w A es) (he:es[i]? = some e):∃ b off,A=some ⟨b,off,none⟩/\b<w.heap.size/\∀ w',Ac w w'->(w'.cell? ⟨T,0,none⟩=some (i64 n)/\w'.cell? ⟨T,1,none⟩=some (.slice A L c))/\(w'.cell? ⟨T+1,0,none⟩=some (.bool false)/\w'.cell? ⟨T+1,1,none⟩=some (.slice none 0 0)/\w'.cell? ⟨T+1,2,none⟩=some (.slice none 0 0)/\w'.cell? ⟨T+1,3,none⟩=some (.slice none 0 0)/\w'.cell? ⟨T+1,4,none⟩=some (u64 0))/\w'.cell? ⟨b,off+i*3,none⟩=some (i64 e.1)/\w'.cell? ⟨b,off+i*3+1,none⟩=some (i64 e.2.1)/\w'.cell? ⟨b,off+i*3+2,none⟩=some (u64 e.2.2):=by
 obtain⟨b,off,hA,hb,h0,h1,h2⟩:=hr i e he;exact⟨b,off,hA,hb,λ w' k=>⟨DW (h.gb.grew k),five (h.ob.grew k),k.cell h0,k.cell h1,k.cell h2⟩⟩
theorem M8 (n:Int) (A:Option I_) (c:Nat) (es:List AB) (i:Nat) (w:H_) (h:Bj w A es) (hi:i<es.length) (hl:es.length<=100000) :
  Calls J_ 40 #[.agg #[i64 n,.slice A es.length c],i64 i,.agg #[.bool false,.slice none 0 0,.slice none 0 0,.slice none 0 0,u64 0]] w λ e w'=>e=.returned (.bool true)/\Ac w w':=by
 obtain⟨L,hL⟩:=zn (es.length)
 rw[hL]at hi hl ⊢
 obtain⟨⟨p,q,a⟩,he⟩:∃ e,es[i]? = some e:=⟨_,zq (by omega)⟩
 obtain⟨b,off,hA,hb,HC⟩:=(cJ.new w n A L c).cells (h.grew (((zr _ _).alloc _).alloc _)) he
 have HC:=zh HC
 subst hA
 obtain⟨T,hT⟩:=zn (w.heap.size)
 obtain⟨w1,AQ⟩:=zn ((w.alloc (.cells #[i64 n,.slice (some ⟨b,off,none⟩) L c] 24)).alloc (.cells #[.bool false,.slice none 0 0,.slice none 0 0,.slice none 0 0,u64 0] 53))
 have g1:Hid (Ac w w1):=by rw[<- AQ];exact((zr _ _).alloc _).alloc _
 rw[AQ,hT]at HC
 have HH:=zh fN
 have gz:Ac w1 w1.drew:=(zr _ _).drew
 have i0:(0:Int)<=(i:Int):=by omega
 have i1:(i:Int)<(L:Int):=by omega
 clear h hb he hL
 go_enter Tryz.func40,Tryz.ntmps40
 go_upto_region 1 with fail
 have e0:(w.alloc (.cells #[.int .i64 n,.slice (some ⟨b,off,none⟩) L c] 24)).alloc (.cells #[.bool false,.slice none 0 0,.slice none 0 0,.slice none 0 0,.int .u64 0] 53)=w1:=AQ
 try rw [e0]
 try rw [hT]
 clear e0 AQ hT
 refine rG [] (λ _=>False) ?_
 refine pG 0 7 ?_
 refine tG 1 8 (y:=λ w' Ah=>by obtain⟨⟨q0,q1⟩,⟨q2,q3,q4,q5,q6⟩,q7,q8,q9⟩:=HC.out w' (gz.trans Ah);go_simp<;>with_reducible rfl) (h:=?_)
 refine pG 2 9 ?_
 refine sG 3 10 (λ K Aj=>?_)
 go_simp
 refine(HH.out _ _).mono ?_
 rintro e y1 ⟨rfl,rfl⟩
 refine Aj (.bool false) _ (λ _=>(zr _ _)) ?_
 clear Aj
 simp only[sA]
 refine pG 4 11 ?_
 refine pG 5 12 ?_
 refine pG 6 13 ?_
 refine tG 7 14 (y:=λ w' Ah=>by obtain⟨⟨q0,q1⟩,⟨q2,q3,q4,q5,q6⟩,q7,q8,q9⟩:=HC.out w' (gz.trans Ah);go_simp<;>with_reducible rfl) (h:=?_)
 refine pG 8 15 ?_
 refine tG 9 16 (y:=λ w' Ah=>by obtain⟨⟨q0,q1⟩,⟨q2,q3,q4,q5,q6⟩,q7,q8,q9⟩:=HC.out w' (gz.trans Ah);go_simp<;>with_reducible rfl) (h:=?_)
 refine pG 10 17 ?_
 refine pG 11 18 ?_
 refine pG 12 19 ?_
 refine tG 13 20 (y:=λ w' Ah=>by obtain⟨⟨q0,q1⟩,⟨q2,q3,q4,q5,q6⟩,q7,q8,q9⟩:=HC.out w' (gz.trans Ah);go_simp<;>with_reducible rfl) (h:=?_)
 refine sG 14 21 (λ K Aj=>?_)
 go_simp
 refine(HH.out _ _).mono ?_
 rintro e y2 ⟨rfl,rfl⟩
 refine Aj (.bool false) _ (λ _=>(zr _ _)) ?_
 clear Aj
 simp only[sA]
 refine pG 15 22 ?_
 refine pG 16 23 ?_
 refine pG 17 24 ?_
 refine pG 18 25 ?_
 refine tG 19 26 (y:=λ w' Ah=>by obtain⟨⟨q0,q1⟩,⟨q2,q3,q4,q5,q6⟩,q7,q8,q9⟩:=HC.out w' (gz.trans Ah);go_simp<;>with_reducible rfl) (h:=?_)
 refine pG 20 27 ?_
 refine tG 21 28 (y:=λ w' Ah=>by obtain⟨⟨q0,q1⟩,⟨q2,q3,q4,q5,q6⟩,q7,q8,q9⟩:=HC.out w' (gz.trans Ah);go_simp<;>with_reducible rfl) (h:=?_)
 refine pG 22 29 ?_
 refine pG 23 30 ?_
 refine pG 24 31 ?_
 refine tG 25 32 (y:=λ w' Ah=>by obtain⟨⟨q0,q1⟩,⟨q2,q3,q4,q5,q6⟩,q7,q8,q9⟩:=HC.out w' (gz.trans Ah);go_simp<;>with_reducible rfl) (h:=?_)
 refine sG 26 33 (λ K Aj=>?_)
 go_simp
 refine(HH.out _ _).mono ?_
 rintro e y3 ⟨rfl,rfl⟩
 refine Aj (.bool false) _ (λ _=>(zr _ _)) ?_
 clear Aj
 simp only[sA]
 refine pG 27 34 ?_
 refine pG 28 35 ?_
 refine pG 29 6 ?_
 refine dG ?_
 go_wp2_with fail
 go_ret
 exact⟨rfl,g1.out.drew⟩
structure WtS (w:H_) (T:Nat) (n:Int) (A:Option I_) (L c:Nat) (es:List AB) (k:Nat) (v:Value) (wr:H_):Prop where
 bx:cJ wr T n A L c
 own:wr.ownsRow (T+2) 29 1 v k ((es.take k).map λ e=>u64 e.2.2)
 kept:Ac w wr
theorem L9 (n:Int) (A:Option I_) (c:Nat) (es:List AB) (w:H_) (h:Bj w A es) (hr:Aq n es=0) (hl:es.length<=1000) :
  Calls J_ 38 #[.agg #[i64 n,.slice A es.length c],.agg #[.bool false,.slice none 0 0,.slice none 0 0,.slice none 0 0,u64 0]] w λ e w'=>∃ v,e=.returned v/\w'.ownsRow w.heap.size 29 1 v es.length (es.map λ e=>u64 e.2.2)/\Ac w w':=by
 obtain⟨i0,Mt,Cu,BV,Cj⟩:=info_parts O9
 obtain⟨T,hT⟩:=zn (w.heap.size)
 have hB:=cJ.new w n A es.length c
 obtain⟨w1,AQ⟩:=zn ((w.alloc (.cells #[i64 n,.slice A es.length c] 24)).alloc (.cells #[.bool false,.slice none 0 0,.slice none 0 0,.slice none 0 0,u64 0] 53))
 have g1:Ac w w1:=by rw[<- AQ];exact((zr _ _).alloc _).alloc _
 have CR:w1.heap.size=T+2:=by rw[<- AQ,A_,A_,hT]
 rw[AQ,hT]at hB
 have HR:=zh (Dg n A c es w1 (h.grew g1) (by omega))
 rw[hr]at HR
 have H1:=DK hB g1 CR
 have HW:=zh h
 obtain⟨L,hL⟩:=zn (es.length)
 have HL:=zh hL
 rw[hL]at HR H1 AQ hl ⊢
 obtain⟨c0,c1⟩:=DW H1.out.1.gb
 obtain⟨d0,d1,d2,d3,d4⟩:=five H1.out.1.ob
 clear h hr hB g1 CR hL
 go_enter Tryz.func38,Tryz.ntmps38
 go_wp2_with fail
 have e0:(w.alloc (.cells #[.int .i64 n,.slice A L c] 24)).alloc (.cells #[.bool false,.slice none 0 0,.slice none 0 0,.slice none 0 0,.int .u64 0] 53)=w1:=AQ
 try rw [e0]
 try rw [hT]
 clear e0 AQ
 refine HR.out.mono ?_
 rintro e w2 ⟨rfl,g2⟩
 have S0:Hid (WtS w T n A L c es 0 (.slice none 0 0) w2):=⟨H1.out.1.grew g2,by rw[List.take_zero];exact World.ownsRow_nil _ _ _ _,H1.out.2.1.trans g2⟩
 obtain⟨x0,x1⟩:=DW S0.out.bx.gb
 obtain⟨y0,y1,y2,y3,y4⟩:=five S0.out.bx.ob
 have Df:Hid (T+2<=w2.heap.size):=by have:=g2.size;have:=H1.out.2.2;show _<=_;omega
 have HT:=zh hT
 clear HR g2 c0 c1 d0 d1 d2 d3 d4 H1 hT
 go_wp2_with fail
 clear x0 x1 y0 y1 y2 y3 y4
 go_loopw [5,6] (λ v5 v6 wr=>∃ k:Nat,k<=L/\v6=.int .i64 k/\Hid (WtS w T n A L c es k v5 wr/\T+2<=wr.heap.size)) (λ _ v6 _=>L-(intOf v6).toNat)
 case atStart=>exact⟨0,by omega,rfl,S0.out,Df.out⟩
 case round =>
  clear S0 Df;obtain⟨k,hk,rfl,hS⟩:=hrel;obtain⟨x0,x1⟩:=DW hS.out.1.bx.gb;obtain⟨y0,y1,y2,y3,y4⟩:=five hS.out.1.bx.ob;by_cases AH:k<L
  ·obtain⟨⟨p,q,a⟩,he⟩:∃ e,es[k]? = some e:=⟨_,zq (by rw[HL.out];exact AH)⟩;obtain⟨b,off,hA,hb,jb,sU,e02⟩:=(HW.out.grew hS.out.1.kept) k _ he;subst hA;obtain⟨A5,c5,hv⟩:=Ap hS.out.1.own;subst hv;have Fj:(0:Int)<=(k:Int):=(by omega);have Ly:(k:Int)<(L:Int):=(by omega);have own1:Hid ((wr.alloc (.cells #[u64 a] 29)).ownsRow (T+2) 29 1 (.slice A5 k c5) k ((es.take k).map λ e=>u64 e.2.2)):=Ac.own ((zr _ _).alloc _) hS.out.1.own;have hN:Hid (∀ r u,[u64 a][r]? = some u->(wr.alloc (.cells #[u64 a] 29)).cell? ((⟨wr.heap.size,0,none⟩:I_).add r)=some u):=World.news_of_block (heap_alloc_new wr (.cells #[u64 a] 29));have LV:Hid (T+2<=(wr.alloc (.cells #[u64 a] 29)).heap.size):=by have:=hS.out.2;rw[A_];show _<=_;omega
   have HE:=zh he;have zA3:k<=1000:=(by omega);clear he hb jb sU;go_wp2_with
    (at_builtin
     refine wpList_append_lies _ rfl (.tmp 44) (.tmp 51) 38 (by rfl) (T+2) 29 i0 (.int .u64 0) 1 8 K_ Mt Cu BV Cj (by rfl) (by omega) (.slice A5 k c5) k ((es.take k).map λ e=>u64 e.2.2) (by rfl) own1.out ⟨wr.heap.size,0,none⟩ 1 1 [u64 a] (by rfl) (by rfl) hN.out (by intro u hu;simp at hu;subst hu;rfl) (by omega) (by unfold maxLen;omega) (by omega) LV.out _ rfl ?_
     intro g cp wa Bb AD _ _
     have Ci:Hid (WtS w T n (some ⟨b,off,none⟩) L c es (k+1) (.slice (some ⟨g,0,none⟩) (k+1) cp) wa/\T+2<=wa.heap.size):=by
      have kA:Kept (λ j=>(Value.slice A5 k c5).ownBlock=some j) wr wa:=((zr _ _).alloc _).grown AD (λ j hj=>.inl hj);have kw:Ac w wa:=hS.out.1.kept.then kA (λ j hj e=>by have:=(hS.out.1.own.lt j e).1;have:=HT.out;omega);have nn:∀ j,(Value.slice A5 k c5).ownBlock=some j->T+2<=j:=λ j e=>(hS.out.1.own.lt j e).1;refine⟨⟨hS.out.1.bx.kept kA (λ e=>by have:=nn _ e;omega) (λ e=>by have:=nn _ e;omega),?_,kw⟩,by have:=kA.size;have:=hS.out.2;omega⟩
      ·rw[List.take_add_one,HE.out,List.map_append];exact Bb
     clear Bb AD)
   clear own1 hN LV hS;go_wp2_with fail;go_roundw
   case rel=>exact⟨k+1,by omega,by go_num,Ci⟩
   case measure=>simp[intOf];omega
  ·obtain rfl:k=L:=(by omega);have HF:Hid (wr.ownsRow w.heap.size 29 1 u5 k (es.map λ e=>u64 e.2.2)/\Ac w wr):=by
    refine⟨?_,hS.out.1.kept⟩;have:=hS.out.1.own;rw[List.take_of_length_le (by rw[HL.out];exact zl _)]at this;exact Az this (by have:=HT.out;omega)
   obtain⟨A5,c5,hv⟩:=Ap HF.out.1;subst hv;clear hS;go_wp2_with fail;go_ret;exact⟨_,rfl,HF.out⟩
abbrev Dh:Int:=4611686018427387904
theorem lL.le {G:Rel} {s t x M:Int} {k:Nat} (hM:∀ p q a,G p q a->a<=M) (h:lL G s k t x):x<=(k:Int)*M:=by
 induction h with
 | nil=>simp
 | @snoc k u t x a _ h2 ih =>
  have h1:=hM _ _ _ h2;have h3:((k+1:Nat):Int)*M=(k:Int)*M+M:=(by rw[Int.natCast_add,Int.add_mul,show ((1:Nat):Int)=1 from rfl,Int.one_mul]);rw[h3];omega
theorem Ep.down {G:Rel} {s far:Int} {N k m:Nat} {d:List Int} (h:Ep G s far N d m) (hk:k<=m):Ep G s far N d k:=⟨h.len,h.way,h.le,h.start,λ j v x y hj=>h.all j v x y (by omega)⟩
theorem iV {G:Rel} {s N:Nat} {d:List Int} (hs:s<N) (hl:d.length=N) (h:∀ i,i<N->d[i]? = some Dh):Ep G s Dh N (d.set s 0) 0:=by
 have key:∀ (v:Nat) x,(d.set s 0)[v]? = some x->(v=s/\x=0)\/x=Dh:=λ v x hx=>by
  by_cases hv:v=s
  ·subst hv;rw[B_ (by omega)]at hx;exact .inl ⟨rfl,(L_ hx).symm⟩
  ·rw[E_ (λ e=>hv e.symm),h v (by have:=(D_.1 hx).1;(try simp at this);omega)]at hx;exact .inr (L_ hx).symm
 refine⟨by simp[hl],λ v x hx hf=>?_,λ v x hx=>?_,?_,λ j v x y hj hw _ hy=>?_⟩
 ·rcases key v x hx with ⟨rfl,rfl⟩ | rfl
  ·exact .nil _
  ·exact absurd hf (by decide)
 ·rcases key v x hx with ⟨_,rfl⟩ | rfl<;>decide
 ·rw[Int.toNat_natCast,B_ (by omega)]
 ·obtain rfl:j=0:=(by omega);cases hw;rw[B_ (by omega)]at hy;rw[<- L_ hy];exact Int.le_refl _
theorem Ox {N s:Nat} {es:List AB} (hr:Aq N es=0) (hN:N<=100):(∀ p q a,CL es p q a->1<=a)/\(∀ p q a,CL es p q a->(0<=p/\p<(N:Int))/\0<=q/\q<(N:Int))/\(∀ v x,Bw (CL es) s v x->x<Dh):=by
 have hE:∀ p q a,CL es p q a->(0<=p/\p<(N:Int))/\(0<=q/\q<(N:Int))/\1<=a/\a<=4294967296:=by
  rintro p q a ⟨i,hi⟩;have h:=Ch hr (zm hi);unfold Mb at h;simp only at h;omega
 have h1:∀ p q a,CL es p q a->1<=a:=λ p q a h=>(hE p q a h).2.2.1;have h2:∀ p q a,CL es p q a->(0<=p/\p<(N:Int))/\0<=q/\q<(N:Int):=λ p q a h=>⟨(hE p q a h).1,(hE p q a h).2.1⟩;refine⟨h1,h2,λ v x hl=>?_⟩;obtain⟨k,hk,hw⟩:=Jb h1 h2 hl;have h3:=hw.le (M:=4294967296) (λ p q a h=>(hE p q a h).2.2.2);show x<4611686018427387904;omega
structure DA (w w5:H_) (T D:Nat) (n:Int) (A:Option I_) (L c:Nat) (d:List Int) (wr:H_):Prop where
 bx:cJ wr T n A L c
 db:Am wr D 29 (d.map u64).toArray
 kept:Ac w wr
 kd:Kept (λ j=>j=D) w5 wr
section
variable {w w5 wr W:H_} {T D L c i p q:Nat} {n x y z:Int} {A AW:Option I_} {d:List Int} {es:List AB}
theorem DA.grew (h:DA w w5 T D n A L c d wr) (k:Ac wr W):DA w w5 T D n A L c d W:=⟨h.bx.grew k,h.db.grew k,h.kept.trans k,h.kd.grew k⟩
theorem DA.at (h:DA w w5 T D n A L c d wr) (hx:d[p]? = some x):wr.cell? ⟨D,p,none⟩=some (u64 x):=by
 rw[h.db.cell p];simp[hx]
theorem DA.set (h:DA w w5 T D n A L c d wr) (k:Ac wr W) (hT:T+2=D) (hw:w.heap.size<=D) (q:Nat) (z:Int):DA w w5 T D n A L c (d.set q z) (W.setCell ⟨D,q,none⟩ (u64 z)):=by
 have hg:=h.grew k;refine⟨⟨hg.bx.gb.far (by show T≠D;omega) _,hg.bx.ob.far (by show T+1≠D;omega) _⟩,?_,hg.kept.setCell (.inr hw) _,hg.kd.setCell (.inl rfl) _⟩;have:=hg.db.set q (u64 z);rw[List.map_set];simpa using this
theorem DA.all (h:DA w w5 T D n A L c d wr) (hE:Bj w A es) (hU:D4 w5 AW (es.map λ e=>e.2.2)) (hUD:∀ a,AW=some a->a.block≠D) {e:AB} (he:es[i]? = some e) (hx:d[p]? = some x) (hy:d[q]? = some y) :
  ∃ b off bw ow,A=some ⟨b,off,none⟩/\AW=some ⟨bw,ow,none⟩/\∀ w',Ac wr w'->(w'.cell? ⟨T,0,none⟩=some (i64 n)/\w'.cell? ⟨T,1,none⟩=some (.slice A L c))/\(w'.cell? ⟨T+1,0,none⟩=some (.bool false)/\w'.cell? ⟨T+1,1,none⟩=some (.slice none 0 0)/\w'.cell? ⟨T+1,2,none⟩=some (.slice none 0 0)/\w'.cell? ⟨T+1,3,none⟩=some (.slice none 0 0)/\w'.cell? ⟨T+1,4,none⟩=some (u64 0))/\w'.cell? ⟨b,off+i*3,none⟩=some (i64 e.1)/\w'.cell? ⟨b,off+i*3+1,none⟩=some (i64 e.2.1)/\w'.cell? ⟨b,off+i*3+2,none⟩=some (u64 e.2.2)/\w'.cell? ⟨bw,ow+i,none⟩=some (u64 e.2.2)/\w'.cell? ⟨D,p,none⟩=some (u64 x)/\w'.cell? ⟨D,q,none⟩=some (u64 y):=by
 obtain⟨b,off,hA,hb,hc⟩:=h.bx.cells (hE.grew h.kept) he
 obtain⟨bw,ow,hAW,hbw,hcw⟩:=(hU.kept h.kd (λ a ha e=>hUD a ha e)) i e.2.2 (by rw[F_,he];rfl)
 exact⟨b,off,bw,ow,hA,hAW,λ w' k=>⟨(hc w' k).1,(hc w' k).2.1,(hc w' k).2.2.1,(hc w' k).2.2.2.1,(hc w' k).2.2.2.2,k.cell hcw,k.cell (h.at hx),k.cell (h.at hy)⟩⟩
end
def AllE (w:H_) (N:Nat) (es:List AB) (s:Nat) (e:Ending) (w':H_):Prop:=∃ D d,e=.returned (.slice (some ⟨D,0,none⟩) N N)/\Am w' D 29 (d.map u64).toArray/\Ep (CL es) s Dh N d N/\Ac w w'
theorem iO (N:Nat) (A:Option I_) (c:Nat) (es:List AB) (s:Nat) (w:H_) (h:Bj w A es) (hr:Aq N es=0) (hN:N<=100) (hs:s<N) (hl:es.length<=1000) :
  Calls J_ 17 #[.agg #[i64 N,.slice A es.length c],i64 s,.agg #[.bool false,.slice none 0 0,.slice none 0 0,.slice none 0 0,u64 0]] w (AllE w N es s):=by
 obtain⟨i0,Mt,ET,Jq,lU⟩:=info_parts O9
 have Hu:=λ W=>run_make (P:=J_) W 38 29 i0 _ K_ Mt ET .i64 .i64 (N:Int) (N:Int) (by omega) (Int.le_refl _) (by rw[lU];omega) (by omega)
 simp only[Int.toNat_natCast,Jq,Nat.mul_one]at Hu
 obtain⟨T,hT⟩:=zn (w.heap.size)
 obtain⟨L,hL⟩:=zn (es.length)
 have hB:=cJ.new w (N:Int) A L c
 obtain⟨w1,AQ⟩:=zn ((w.alloc (.cells #[i64 N,.slice A L c] 24)).alloc (.cells #[.bool false,.slice none 0 0,.slice none 0 0,.slice none 0 0,u64 0] 53))
 have g1:Ac w w1:=by rw[<- AQ];exact((zr _ _).alloc _).alloc _
 obtain⟨D,hD⟩:=zn (w1.heap.size)
 have hTD:T+2=D:=by rw[<- hD,<-AQ,A_,A_,hT]
 rw[AQ,hT]at hB
 obtain⟨w2,BM,g2⟩:=zg w1 (.cells (madeCells #[u64 0] N) 29)
 have hdb:Am w2 D 29 ((C_ N (0:Int)).map u64).toArray:=by
  rw[<- BM,<-hD,<-pE];exact zv w1 29 _
 have S0:Hid (DA w w2 T D N A L c (C_ N 0) w2):=⟨hB.grew g2,hdb,g1.trans g2,zr _ _⟩
 have HWt:=zh (λ W (k:Ac w W)=>L9 N A c es W (h.grew k) hr hl)
 have HCt:=zh (λ W (k:Ac w W) i (hi:i<es.length)=>M8 N A c es i W (h.grew k) hi (by omega))
 rw[hL]at HWt HCt hl
 have H0:=DK h hr hL
 have HF:=zh (Ox (s:=s) hr hN)
 have HT:=BP hT hTD
 have HH:=zh fN
 have HEn:=zh dp
 obtain⟨c0,c1⟩:=DW hB.gb
 rw[hL]
 clear h hr Mt ET Jq lU hB g1 g2 hdb hL
 go_enter Tryz.func17,Tryz.ntmps17
 have e0:(w.alloc (.cells #[.int .i64 (N:Int),.slice A L c] 24)).alloc (.cells #[.bool false,.slice none 0 0,.slice none 0 0,.slice none 0 0,.int .u64 0] 53)=w1:=AQ
 have e1:w1.alloc (.cells (madeCells #[.int .u64 0] N) 29)=w2:=BM
 go_wp2_with fail
 clear e0 e1 AQ BM Hu c0 c1
 clear hD
 go_loopw [8] (λ v8 wr=>∃ (k:Nat) (d:List Int),k<=N/\v8=.int .i64 k/\Hid (DA w w2 T D N A L c d wr/\d.length=N/\∀ i,i<k->d[i]? = some Dh)) (λ v8 _=>N-(intOf v8).toNat)
 case atStart=>exact⟨0,_,by omega,rfl,S0.out,by simp,λ i hi=>by omega⟩
 case round =>
  clear S0;obtain⟨k,d,hk,rfl,hS⟩:=hrel;obtain⟨c0,c1⟩:=DW hS.out.1.bx.gb;by_cases AH:k<N
  ·have k0:(0:Int)<=(k:Int):=(by omega);have k1:(k:Int)<(N:Int):=(by omega);obtain⟨z,hz⟩:=zx (l:=d) (i:=k) (by rw[hS.out.2.1];exact AH);have y0:=hS.out.1.at hz;have y1:=hS.out.1.db.frozen k;have Ci:Hid (DA w w2 T D N A L c (d.set k Dh) (wr.setCell ⟨D,k,none⟩ (u64 Dh))/\(d.set k Dh).length=N/\∀ i,i<k+1->(d.set k Dh)[i]? = some Dh):=by
    refine⟨hS.out.1.set (zr _ _) HT.out.2 (by have:=HT.out;omega) k Dh,by rw[List.length_set];exact hS.out.2.1,λ i hi=>?_⟩;by_cases fS:i=k
    ·subst fS;rw[B_ (by rw[hS.out.2.1];exact AH)]
    ·rw[E_ (λ e=>fS e.symm)];exact hS.out.2.2 i (by omega)
   clear hS hz;go_wp2_with fail;go_roundw
   case rel=>exact⟨k+1,_,by omega,by go_num,Ci⟩
   case measure=>simp[intOf];omega
  ·obtain rfl:k=N:=(by omega);clear AH;obtain⟨d0,d1,d2,d3,d4⟩:=five hS.out.1.bx.ob;obtain⟨z,hz⟩:=zx (l:=d) (i:=s) (by rw[hS.out.2.1];exact hs);have y0:=hS.out.1.at hz;have y1:=hS.out.1.db.frozen s;have s0:(0:Int)<=(s:Int):=(by omega);have s1:(s:Int)<(k:Int):=(by omega);have S4:Hid (DA w w2 T D k A L c (d.set s 0) (wr.setCell ⟨D,s,none⟩ (u64 0))/\Ep (CL es) s Dh k (d.set s 0) 0):=⟨hS.out.1.set (zr _ _) HT.out.2 (by have:=HT.out;omega) s 0,iV hs hS.out.2.1 hS.out.2.2⟩;obtain⟨x0,x1⟩:=DW S4.out.1.bx.gb;obtain⟨x2,x3,x4,x5,x6⟩:=five S4.out.1.bx.ob;clear hz hS;go_wp2_with fail;refine(HH.out _ _).mono ?_;rintro e w9 ⟨rfl,rfl⟩;go_wp2_with fail;refine(HWt.out _ S4.out.1.kept).mono ?_;rintro e w5 ⟨v,rfl,ho,g5⟩;obtain⟨A5,c5,hv,hU⟩:=qb (zs:=es.map λ e=>e.2.2) (by rw[G_,H0.out.2.2,List.map_map];exact ho);have hUD:∀ a,A5=some a->a.block≠D:=λ a ha e=>by
    subst ha;subst hv;have h1:=(ho.lt a.block rfl).1;have h2:=S4.out.1.db.lt;omega
   rw[G_,H0.out.2.2]at hv;subst hv;have S5:Hid (DA w w5 T D k A L c (d.set s 0) w5/\Ep (CL es) s Dh k (d.set s 0) 0):=⟨⟨S4.out.1.bx.grew g5,S4.out.1.db.grew g5,S4.out.1.kept.trans g5,zr _ _⟩,S4.out.2⟩;have HU:=BP hU hUD;clear ho g5 hU hUD S4 x0 x1 x2 x3 x4 x5 x6 y0 y1 c0 c1 d0 d1 d2 d3 d4 HWt;go_wp2_with fail;go_loopw [10,11,12,13,14] (λ v10 v11 _ _ _ wr=>∃ (m:Nat) (b:Bool) (d:List Int),m<=k+1/\v11=.int .i64 m/\v10=.bool b/\Hid (DA w w5 T D k A L c d wr/\(b=true->Ep (CL es) s Dh k d m)/\(b=false->Ep (CL es) s Dh k d k))) (λ _ v11 _ _ _ _=>k+1-(intOf v11).toNat)
   case atStart=>exact⟨0,true,_,by omega,rfl,rfl,S5.out.1,λ _=>S5.out.2,λ h=>by cases h⟩
   case round =>
    obtain⟨s64,No⟩:∃ s,s=u64:=⟨u64,rfl⟩;subst No;clear S5;obtain⟨m,b,d,hm,rfl,rfl,hS⟩:=hrel;obtain⟨x0,x1⟩:=DW hS.out.1.bx.gb;by_cases yI:m<=k/\b=true
    ·obtain⟨Hu,rfl⟩:=yI;have m0:(0:Int)<=(m:Int):=(by omega);have m1:(m:Int)<=(k:Int):=(by omega);have SI:Hid (DA w w5 T D k A L c d wr/\CY es s Dh k d d m 0 false):=⟨hS.out.1,CY.start (hS.out.2.1 rfl)⟩;have lH:Hid (Ep (CL es) s Dh k d m):=hS.out.2.1 rfl;obtain⟨dd,yE⟩:=zn (d);have SI2:Hid (DA w w5 T D k A L c d wr/\CY es s Dh k dd d m 0 false):=by rw[<- yE];exact SI.out
     rw[yE]at lH;clear hS SI hm yE;go_wp2_with fail;clear x0 x1;go_loopw [10,12,13,14] (λ v10 v12 _ _ wr=>∃ (i:Nat) (b:Bool) (d:List Int),i<=L/\v12=.int .i64 i/\v10=.bool b/\Hid (DA w w5 T D k A L c d wr/\CY es s Dh k dd d m i b)) (λ _ v12 _ _ _=>L-(intOf v12).toNat)
     case atStart=>exact⟨0,false,d,by omega,rfl,rfl,SI2⟩
     case round =>
      obtain⟨s64,No⟩:∃ s,s=u64:=⟨u64,rfl⟩;subst No;clear SI2;obtain⟨i,b,d,hi,rfl,rfl,hS⟩:=hrel;obtain⟨x0,x1⟩:=DW hS.out.1.bx.gb;by_cases AH:i<L
      ·as_aux_lemma =>
       obtain⟨⟨p,q,a⟩,he⟩:∃ e,es[i]? = some e:=⟨_,zq (by rw[H0.out.2.2];exact AH)⟩;have Ba:=Ch H0.out.2.1 (zm he);unfold Mb at Ba;simp only at Ba;obtain⟨p,rfl⟩:∃ z:Nat,p=(z:Int):=⟨p.toNat,by omega⟩;obtain⟨q,rfl⟩:∃ z:Nat,q=(z:Int):=⟨q.toNat,by omega⟩;obtain⟨x,hx⟩:=zx (l:=d) (i:=p) (by rw[hS.out.2.bell.len];omega);obtain⟨y,hy⟩:=zx (l:=d) (i:=q) (by rw[hS.out.2.bell.len];omega);obtain⟨bb,off,bw,ow,hA,hAW,HC⟩:=hS.out.1.all H0.out.1 HU.out.1 HU.out.2 he hx hy;have zI:=hS.out.2.bell.le p x hx;have hyf:=hS.out.1.db.frozen q;subst hA;subst hAW;have HC:=zh HC;have gz:Ac wr wr.drew:=(zr _ _).drew;have i0:(0:Int)<=(i:Int):=(by omega);have i1:(i:Int)<(L:Int):=(by omega);have p0:(0:Int)<=(p:Int):=(by omega);have p1:(p:Int)<(k:Int):=(by omega);have q0:(0:Int)<=(q:Int):=(by omega);have q1:(q:Int)<(k:Int):=(by omega);have xi:=zh (λ W (g:Ac wr W)=>HCt.out W (hS.out.1.kept.trans g) i AH);have HS:=Gt hS.out he hx hy Ba;have x99:¬ x<0:=(by omega);clear hS he hx hy HCt HU lH;go_upto_region 18 with fail;refine rG [] (λ _=>False) ?_;refine pG 0 56 ?_;refine tG 1 57 (y:=λ w' Ah=>by obtain⟨⟨r0,r1⟩,⟨r2,r3,r4,r5,r6⟩,r7,r8,r9,ra,rb,rc⟩:=HC.out w' (gz.trans Ah);go_simp<;>with_reducible rfl) (h:=?_);refine pG 2 58 ?_;refine pG 3 59 ?_;refine tG 4 60 (y:=λ w' Ah=>by obtain⟨⟨r0,r1⟩,⟨r2,r3,r4,r5,r6⟩,r7,r8,r9,ra,rb,rc⟩:=HC.out w' (gz.trans Ah);go_simp<;>with_reducible rfl) (h:=?_);refine pG 5 61 ?_;refine tG 6 62 (y:=λ w' Ah=>by obtain⟨⟨r0,r1⟩,⟨r2,r3,r4,r5,r6⟩,r7,r8,r9,ra,rb,rc⟩:=HC.out w' (gz.trans Ah);go_simp<;>with_reducible rfl) (h:=?_);refine sG 7 63 (λ K Aj=>?_);go_simp;refine(HEn.out _ _ _ _).mono ?_;rintro e v1 ⟨rfl,j1⟩;refine Aj (.tuple #[.int .i64 (p:Int),.int .i64 (q:Int)]) _ (λ _=>j1) ?_;clear Aj;simp only[sA];refine pG 8 55 ?_;refine pG 9 64 ?_;refine pG 10 65 ?_;refine pG 11 13 ?_;refine pG 12 14 ?_;refine dG ?_;go_upto_region 19 with fail;have FX:Ac wr v1.drew:=(gz.trans j1).drew;by_cases hxf:x<Dh
       ·have dx:decide (x<4611686018427387904)=true:=zt hxf;have hxf2:x<4611686018427387904:=hxf;have hwr:IntKind.u64.wrap (x+a)=x+a:=by rw[IntKind.wrap_u64];omega
        by_cases Kt:x+a<y
        ·have dy:decide (x+a<y)=true:=zt Kt;have fr:∀ W,Ac wr W->W.frozen? ⟨D,q,none⟩=false:=λ W g=>(HS.out.1.1.db.grew g).frozen q;have HFr:=zh fr;clear fr hyf;refine rG [] (λ _=>False) ?_;refine tG 0 66 (y:=λ w' Ah=>by obtain⟨⟨r0,r1⟩,⟨r2,r3,r4,r5,r6⟩,r7,r8,r9,ra,rb,rc⟩:=HC.out w' (FX.trans Ah);go_simp<;>with_reducible rfl) (h:=?_);refine pG 1 67 ?_;refine tG 2 68 (y:=λ w' Ah=>by obtain⟨⟨r0,r1⟩,⟨r2,r3,r4,r5,r6⟩,r7,r8,r9,ra,rb,rc⟩:=HC.out w' (FX.trans Ah);go_simp<;>with_reducible rfl) (h:=?_);refine sG 3 69 (λ K Aj=>?_);go_simp;refine(xi.out _ FX).mono ?_;rintro e y1 ⟨rfl,j2⟩;refine Aj (.bool true) _ (λ _=>j2) ?_;clear Aj;simp only[sA];refine pG 4 70 ?_;refine pG 5 71 ?_;refine pG 6 72 ?_;refine pG 7 73 ?_;refine tG 8 74 (y:=λ w' Ah=>by obtain⟨⟨r0,r1⟩,⟨r2,r3,r4,r5,r6⟩,r7,r8,r9,ra,rb,rc⟩:=HC.out w' ((FX.trans j2).trans Ah);go_simp<;>with_reducible rfl) (h:=?_);refine pG 9 75 ?_;refine pG 10 76 ?_;refine pG 11 77 ?_;refine pG 12 78 ?_;refine pG 13 79 ?_;refine pG 14 80 ?_;refine tG 15 81 (y:=λ w' Ah=>by obtain⟨⟨r0,r1⟩,⟨r2,r3,r4,r5,r6⟩,r7,r8,r9,ra,rb,rc⟩:=HC.out w' ((FX.trans j2).trans Ah);go_simp<;>with_reducible rfl) (h:=?_);refine pG 16 82 ?_;refine pG 17 83 ?_;refine pG 18 84 ?_;refine tG 19 85 (y:=λ w' Ah=>by obtain⟨⟨r0,r1⟩,⟨r2,r3,r4,r5,r6⟩,r7,r8,r9,ra,rb,rc⟩:=HC.out w' ((FX.trans j2).trans Ah);go_simp<;>with_reducible rfl) (h:=?_);refine pG 20 86 ?_;refine pG 21 87 ?_;refine pG 22 88 ?_;refine pG 23 89 ?_;refine tG 24 90 (y:=λ w' Ah=>by obtain⟨⟨r0,r1⟩,⟨r2,r3,r4,r5,r6⟩,r7,r8,r9,ra,rb,rc⟩:=HC.out w' ((FX.trans j2).trans Ah);go_simp<;>with_reducible rfl) (h:=?_);refine pG 25 91 ?_;refine pG 26 92 ?_;refine dG ?_;go_upto_region 20 with fail;have gz3:Ac wr y1.drew:=(FX.trans j2).drew;have cy:=(HC.out _ gz3).2.2.2.2.2.2.2;have cf:=HFr.out _ gz3;have HN:Hid (DA w w5 T D k (some ⟨bb,off,none⟩) L c (d.set q (x+a)) (y1.drew.setCell ⟨D,q,none⟩ (.int .u64 (x+a)))/\CY es s Dh k dd (d.set q (x+a)) m (i+1) true):=⟨HS.out.1.1.set gz3 HT.out.2 (by have:=HT.out;omega) q (x+a),HS.out.1.2.take HS.out.2.1 (by have:=HS.out.2.2.2.2;omega) HS.out.2.2.1 HS.out.2.2.2.1 hxf Kt⟩;refine rG [12] (λ _=>False) ?_;refine pG 0 93 ?_;refine pG 1 94 ?_;refine pG 2 95 ?_;refine pG 3 96 ?_;refine pG 4 97 ?_;refine tG 5 98 (y:=λ w' Ah=>by obtain⟨⟨r0,r1⟩,⟨r2,r3,r4,r5,r6⟩,r7,r8,r9,ra,rb,rc⟩:=HC.out w' (gz3.trans Ah);go_simp<;>with_reducible rfl) (h:=?_);refine pG 6 99 ?_;refine pG 7 100 ?_;refine pG 8 101 ?_;refine tG 9 102 (y:=λ w' Ah=>by obtain⟨⟨r0,r1⟩,⟨r2,r3,r4,r5,r6⟩,r7,r8,r9,ra,rb,rc⟩:=HC.out w' (gz3.trans Ah);go_simp<;>with_reducible rfl) (h:=?_);refine pG 10 103 ?_;refine pG 11 104 ?_;refine DH 12 (λ K Aj=>?_);go_simp;refine Aj _ (λ h=>absurd (by simp) h) ?_;clear Aj;refine dG ?_;clear HC HS;go_wp2_with fail;go_roundw
         case rel=>exact⟨i+1,true,_,by omega,by go_num,rfl,HN⟩
         case measure=>simp[intOf];omega
        ·have dy:decide (x+a<y)=false:=zf Kt;refine rG [] (λ _=>False) ?_;refine tG 0 66 (y:=λ w' Ah=>by obtain⟨⟨r0,r1⟩,⟨r2,r3,r4,r5,r6⟩,r7,r8,r9,ra,rb,rc⟩:=HC.out w' (FX.trans Ah);go_simp<;>with_reducible rfl) (h:=?_);refine pG 1 67 ?_;refine tG 2 68 (y:=λ w' Ah=>by obtain⟨⟨r0,r1⟩,⟨r2,r3,r4,r5,r6⟩,r7,r8,r9,ra,rb,rc⟩:=HC.out w' (FX.trans Ah);go_simp<;>with_reducible rfl) (h:=?_);refine sG 3 69 (λ K Aj=>?_);go_simp;refine(xi.out _ FX).mono ?_;rintro e y1 ⟨rfl,j2⟩;refine Aj (.bool true) _ (λ _=>j2) ?_;clear Aj;simp only[sA];refine pG 4 70 ?_;refine pG 5 71 ?_;refine pG 6 72 ?_;refine pG 7 73 ?_;refine tG 8 74 (y:=λ w' Ah=>by obtain⟨⟨r0,r1⟩,⟨r2,r3,r4,r5,r6⟩,r7,r8,r9,ra,rb,rc⟩:=HC.out w' ((FX.trans j2).trans Ah);go_simp<;>with_reducible rfl) (h:=?_);refine pG 9 75 ?_;refine pG 10 76 ?_;refine pG 11 77 ?_;refine pG 12 78 ?_;refine pG 13 79 ?_;refine pG 14 80 ?_;refine tG 15 81 (y:=λ w' Ah=>by obtain⟨⟨r0,r1⟩,⟨r2,r3,r4,r5,r6⟩,r7,r8,r9,ra,rb,rc⟩:=HC.out w' ((FX.trans j2).trans Ah);go_simp<;>with_reducible rfl) (h:=?_);refine pG 16 82 ?_;refine pG 17 83 ?_;refine pG 18 84 ?_;refine tG 19 85 (y:=λ w' Ah=>by obtain⟨⟨r0,r1⟩,⟨r2,r3,r4,r5,r6⟩,r7,r8,r9,ra,rb,rc⟩:=HC.out w' ((FX.trans j2).trans Ah);go_simp<;>with_reducible rfl) (h:=?_);refine pG 20 86 ?_;refine pG 21 87 ?_;refine pG 22 88 ?_;refine pG 23 89 ?_;refine tG 24 90 (y:=λ w' Ah=>by obtain⟨⟨r0,r1⟩,⟨r2,r3,r4,r5,r6⟩,r7,r8,r9,ra,rb,rc⟩:=HC.out w' ((FX.trans j2).trans Ah);go_simp<;>with_reducible rfl) (h:=?_);refine pG 25 91 ?_;refine pG 26 92 ?_;refine dG ?_;have HN:Hid (DA w w5 T D k (some ⟨bb,off,none⟩) L c d y1/\CY es s Dh k dd d m (i+1) b):=⟨HS.out.1.1.grew (FX.trans j2),HS.out.1.2.skip HS.out.2.1 HS.out.2.2.1 HS.out.2.2.2.1 (λ h=>Kt h.2)⟩;clear HC HS;go_wp2_with fail;go_roundw
         case rel=>exact⟨i+1,b,_,by omega,by go_num,rfl,HN⟩
         case measure=>simp[intOf];omega
       ·have dx:decide (x<4611686018427387904)=false:=zf hxf;have hxf2:¬ x<4611686018427387904:=hxf;refine rG [] (λ _=>False) ?_;refine tG 0 66 (y:=λ w' Ah=>by obtain⟨⟨r0,r1⟩,⟨r2,r3,r4,r5,r6⟩,r7,r8,r9,ra,rb,rc⟩:=HC.out w' (FX.trans Ah);go_simp<;>with_reducible rfl) (h:=?_);refine pG 1 67 ?_;refine tG 2 68 (y:=λ w' Ah=>by obtain⟨⟨r0,r1⟩,⟨r2,r3,r4,r5,r6⟩,r7,r8,r9,ra,rb,rc⟩:=HC.out w' (FX.trans Ah);go_simp<;>with_reducible rfl) (h:=?_);refine sG 3 69 (λ K Aj=>?_);go_simp;refine(xi.out _ FX).mono ?_;rintro e y1 ⟨rfl,j2⟩;refine Aj (.bool true) _ (λ _=>j2) ?_;clear Aj;simp only[sA];refine pG 4 70 ?_;refine pG 5 71 ?_;refine pG 6 72 ?_;refine pG 7 73 ?_;refine tG 8 74 (y:=λ w' Ah=>by obtain⟨⟨r0,r1⟩,⟨r2,r3,r4,r5,r6⟩,r7,r8,r9,ra,rb,rc⟩:=HC.out w' ((FX.trans j2).trans Ah);go_simp<;>with_reducible rfl) (h:=?_);refine pG 9 75 ?_;refine pG 10 76 ?_;refine pG 11 77 ?_;refine qG 12 78 ?_;refine qG 13 79 ?_;refine qG 14 80 ?_;refine qG 15 81 ?_;refine qG 16 82 ?_;refine qG 17 83 ?_;refine qG 18 84 ?_;refine qG 19 85 ?_;refine qG 20 86 ?_;refine qG 21 87 ?_;refine qG 22 88 ?_;refine qG 23 89 ?_;refine qG 24 90 ?_;refine qG 25 91 ?_;refine pG 26 92 ?_;refine dG ?_;have HN:Hid (DA w w5 T D k (some ⟨bb,off,none⟩) L c d y1/\CY es s Dh k dd d m (i+1) b):=⟨HS.out.1.1.grew (FX.trans j2),HS.out.1.2.skip HS.out.2.1 HS.out.2.2.1 HS.out.2.2.2.1 (λ h=>hxf h.1)⟩;clear HC HS;go_wp2_with fail;go_roundw
        case rel=>exact⟨i+1,b,_,by omega,by go_num,rfl,HN⟩
        case measure=>simp[intOf];omega
      ·obtain rfl:i=L:=(by omega);have HN:Hid (DA w w5 T D k A i c d wr/\(b=true->Ep (CL es) s Dh k d (m+1))/\(b=false->Ep (CL es) s Dh k d k)):=by
        have hb:=hS.out.2;rw[<- H0.out.2.2]at hb;refine⟨hS.out.1,λ _=>hb.round lH.out HF.out.2.1 HF.out.2.2,λ e=>?_⟩;subst e;exact(hb.still lH.out HF.out.2.1 HF.out.2.2 (max m k) (by omega)).down (by omega)
       clear hS lH;go_wp2_with fail;go_roundw
       case rel=>exact⟨m+1,b,d,by omega,by go_num,rfl,HN⟩
       case measure=>simp[intOf];omega
    ·have HB:Hid (Ep (CL es) s Dh k d k):=by
      cases b with
      | false=>exact hS.out.2.2 rfl
      | true=>exact(hS.out.2.1 rfl).down (by
        have:¬ m<=k:=λ h=>yI ⟨h,rfl⟩;omega)
     have HS:=zh hS.out.1;have Cx:((m:Int)<=(k:Int)/\b=false)\/¬ (m:Int)<=(k:Int):=by
      by_cases Hu:(m:Int)<=(k:Int)
      ·left;refine⟨Hu,?_⟩;cases b with
       | false=>rfl
       | true=>exact absurd ⟨by omega,rfl⟩ yI
      ·exact .inr Hu
     clear hS yI HCt HF HU hm;rcases Cx with ⟨Hu,rfl⟩ | Hu;all_goals
      go_wp2_with fail
      clear x0 x1
      go_loopw [15] (λ v15 wz=>∃ j:Nat,j<=k/\v15=.int .i64 j/\Hid (DA w w5 T D k A L c d wz)) (λ v15 _=>k-(intOf v15).toNat)
      case atStart=>exact⟨0,by omega,rfl,HS⟩
      case round =>
       obtain⟨j,hj,rfl,hZ⟩:=hrel;obtain⟨x0,x1⟩:=DW hZ.out.bx.gb;by_cases rN:j<k
       ·have j0:(j:Int)<(k:Int):=(by omega);have HC:Hid (∀ w',Ac wr.drew w'->w'.cell? ⟨T+1,4,none⟩=some (.int .u64 0)):=λ w' g=>(five (hZ.out.bx.ob.grew (Kept.trans (zr _ _).drew g))).2.2.2.2;have hZ1:Hid (DA w w5 T D k A L c d wr.drew):=hZ.out.grew (zr _ _).drew;clear hZ;go_upto_region 25 with fail;refine rG [] (λ _=>False) ?_;refine pG 0 111 ?_;refine tG 1 112 (y:=λ w' Ah=>by have r6:=HC.out w' Ah;go_simp<;>with_reducible rfl) (h:=?_);refine pG 2 113 ?_;refine pG 3 114 ?_;refine qG 4 115 ?_;refine qG 5 116 ?_;refine qG 6 117 ?_;refine qG 7 118 ?_;refine qG 8 119 ?_;refine qG 9 120 ?_;refine qG 10 121 ?_;refine pG 11 122 ?_;refine dG ?_;go_wp2_with fail;go_roundw
        case rel=>exact⟨j+1,by omega,by go_num,hZ1⟩
        case measure=>simp[intOf];omega
       ·obtain rfl:j=k:=(by omega);have HR:Hid (Am wr D 29 (d.map (λ z=>Value.int .u64 z)).toArray/\Ep (CL es) s Dh j d j/\Ac w wr):=⟨hZ.out.db,HB.out,hZ.out.kept⟩;clear hZ;go_wp2_with fail;go_ret;exact⟨D,d,rfl,HR.out⟩
end Go.Proofs.YtepelooebggliaaGreatDoor
