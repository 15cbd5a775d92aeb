/- Walks of functions that the law reaches, and plain laws, part 20 of 21: lemmas for the proof in the last text; no condition. Shortened by program. -/
import Derived.BigQuiet
import Derived.Test.YtepelooebggliaaGreatDoorSu0
import Derived.Test.YtepelooebggliaaGreatDoorSu2
import Derived.Test.YtepelooebggliaaGreatDoorSu5
import Derived.Test.YtepelooebggliaaGreatDoorSu6
import Derived.Test.YtepelooebggliaaGreatDoorSu15
import Derived.Test.YtepelooebggliaaGreatDoorSu17
open Go.Proofs.Tryz renaming prog->A_
open List renaming not_mem_nil->B_,mem_cons->C_,length_map->D_,take_of_length_le->E_,getElem?_map->F_,length_take->G_
open Go renaming Calls->H_,World->I_,Value->J_
open Go.Value renaming slice->K_
set_option maxHeartbeats 16000000
set_option maxRecDepth 100000
set_option linter.unusedVariables false
set_option linter.unusedSimpArgs false
namespace Go.Proofs.YtepelooebggliaaGreatDoor
open Go.RowKit Go.Shelf
theorem eA (l:List UInt8) (c:UInt8) (W:I_):H_ A_ 312 #[.string (bs l),.string (bs [c])] W λ e W'=>e=.returned (.int .i64 (Lib.indexByte l c))/\W'=W:=by
 have:=Any.stringslite_Index_one (ρ:=Tryz.lays143_ren) { Tryz.lays143 with } (bs l) c W;rw[FW]at this;exact this
theorem ax (a b:List UInt8) (ha:(47:UInt8)∉a) (hl:a.length+b.length<=10000) (w:I_) :
  H_ A_ 244 #[str (a++47::b),.string ⟨#[47]⟩] w λ e w'=>e=.returned (.tuple #[str a,str b,.bool true])/\Ac w w':=by
 have hI:H_ A_ 312 #[str (a++47::b),.string ⟨#[47]⟩] w λ e W'=>e=.returned (i64 (a.length:Int))/\W'=w:=by
  have h:=eA (a++47::b) 47 w;rw[Mx a b 47 ha]at h;exact h
 have hp:=gU (a++47::b) a.length (by simp)
 have hs:=gV (a++47::b) (a.length+1) (by simp)
 rw[List.take_left'  rfl]at hp
 rw[show (a++47::b).drop (a.length+1)=b by simp]at hs
 obtain⟨l,tE⟩:=zn (a++47::b)
 obtain⟨A,hA⟩:=zn (a.length)
 rw[tE]at hI hp hs
 rw[hA]at hI hp hs hl
 rw[tE]
 have m1:((A:Int)+1)=((A+1:Nat):Int):=by omega
 rw[m1.symm]at hs
 have s1:(⟨#[47]⟩:ByteArray).size=1:=rfl
 have a0:(0:Int)<=(A:Int):=by omega
 have a9:(A:Int)<=10000:=by omega
 have HI:=zh hI
 clear hI m1 tE hA ha hl
 go_enter Tryz.func244,Tryz.ntmps244
 go_wp2_with fail
 refine HI.out.mono ?_
 rintro e w1 ⟨rfl,rfl⟩
 clear HI
 go_wp2_with fail
 go_quiet (fail)
 all_goals go_wp2
 all_goals go_ret3
 all_goals exact ⟨rfl,(zr _ _).drewN _⟩
theorem sO (a b:List UInt8) (ha:(47:UInt8)∉a) (hl:a.length+b.length<=10000) (w:I_) :
  H_ A_ 181 #[str (a++47::b),.string ⟨#[47]⟩] w λ e w'=>e=.returned (.tuple #[str a,str b,.bool true])/\Ac w w':=by
 have HC:=zh (ax a b ha hl w)
 clear ha hl
 go_enter Tryz.func181,Tryz.ntmps181
 go_wp2_with fail
 refine HC.out.mono ?_
 rintro e w1 ⟨rfl,g1⟩
 have G:=zh g1
 clear g1 HC
 go_wp2_with fail
 go_ret3
 exact⟨rfl,G.out⟩
theorem eH (n d:Nat) (hn:n<=1048576) (fP:1<=d) (hd:d<=1048576) (w:I_) :
  H_ A_ 182 #[.agg #[u64 n,u64 d]] w λ e w'=>e=.returned (.bool true)/\Ac w w':=by
 have k1:Hid (Ac w (w.alloc (.cells #[u64 n,u64 d] 172))):=(zr _ _).alloc _
 have n0:(0:Int)<=(n:Int):=by omega
 have n1:(n:Int)<=1048576:=by omega
 have d0:(1:Int)<=(d:Int):=by omega
 have d1:(d:Int)<=1048576:=by omega
 clear hn fP hd
 go_enter Tryz.func182,Tryz.ntmps182
 go_wp2
 go_ret
 exact⟨rfl,k1.out⟩
theorem eG (a b:List UInt8) (n d:Nat) (h1:BI a n) (h2:BI b d) (hn:n<=1048576) (fP:1<=d) (hd:d<=1048576) (ha:(47:UInt8)∉a) (hl:a.length+b.length<=10000) (w:I_) :
  H_ A_ 133 #[str (a++47::b)] w λ e w'=>e=.returned (.tuple #[.agg #[u64 n,u64 d],i64 0])/\Ac w w':=by
 obtain⟨T,hT⟩:=zn (w.heap.size)
 obtain⟨w1,AQ,g1,b0⟩:=zb w #[u64 0,u64 0] 172 hT
 have fin:Hid (∀ w2 (a b:Int),Ac w1 w2->w2.cell? ⟨T,0,none⟩=some (u64 0)/\w2.cell? ⟨T,1,none⟩=some (u64 0)/\w2.frozen? ⟨T,0,none⟩=false/\(w2.setCell ⟨T,0,none⟩ (u64 a)).frozen? ⟨T,1,none⟩=false/\Ac w (w2.setCell ⟨T,0,none⟩ (u64 a) |>.setCell ⟨T,1,none⟩ (u64 b))/\((w2.setCell ⟨T,0,none⟩ (u64 a)).setCell ⟨T,1,none⟩ (u64 b)).cell? ⟨T,0,none⟩=some (u64 a)/\((w2.setCell ⟨T,0,none⟩ (u64 a)).setCell ⟨T,1,none⟩ (u64 b)).cell? ⟨T,1,none⟩=some (u64 b)):=zh λ w2 a b k=>by
  have h0:=b0.grew k;have h1:=h0.set 0 (u64 a);have h2:=h1.set 1 (u64 b);have r0:=h2.cell 0;have r1:=h2.cell 1;have y0:=h0.cell 0;have y1:=h0.cell 1;simp at r0 r1 y0 y1;exact⟨y0,y1,h0.frozen 0,h1.frozen 1,((g1.trans k).setCell (p:=⟨T,0,none⟩) (.inr (by show w.heap.size<=T;omega)) _).setCell (p:=⟨T,1,none⟩) (.inr (by show w.heap.size<=T;omega)) _,r0,r1⟩
 have HC:=zh (λ W=>sO a b ha hl W)
 have HP:=zh (λ W=>Du a n h1 (by omega) W)
 have HQ:=zh (λ W=>Du b d h2 (by omega) W)
 have HR:=zh (λ W=>eH n d hn fP hd W)
 obtain⟨l,tE⟩:=zn (a++47::b)
 rw[tE]at HC ⊢
 clear b0 g1 h1 h2 hn fP hd ha hl tE
 go_enter Tryz.func133,Tryz.ntmps133
 go_wp2_with fail
 have e0:w.alloc (.cells #[.int .u64 0,.int .u64 0] 172)=w1:=AQ
 try rw [e0]
 try rw [hT]
 clear e0 AQ
 refine(HC.out _).mono ?_
 rintro e w2 ⟨rfl,g2⟩
 clear HC
 go_wp2_with fail
 refine(HP.out _).mono ?_
 rintro e w3 ⟨rfl,g3⟩
 clear HP
 go_wp2_with fail
 refine(HQ.out _).mono ?_
 rintro e w4 ⟨rfl,g4⟩
 clear HQ
 obtain⟨R,hR⟩:=zn (w4.heap.size)
 have bR:=zv w4 172 #[u64 n,u64 d]
 rw[hR]at bR
 have g5:Ac w1 (w4.alloc (.cells #[u64 n,u64 d] 172)):=(g2.trans (g3.trans g4)).trans ((zr _ _).alloc _)
 have HX:=BP bR g5
 clear bR g5 g2 g3 g4
 go_wp2_with fail
 refine(HR.out _).mono ?_
 rintro e w5 ⟨rfl,g6⟩
 have HX4:=BP (HX.out.1.grew g6) (HX.out.2.trans g6)
 clear HX g6 HR
 obtain⟨c0,c1⟩:=CE HX4.out.1
 obtain⟨x0,x1,x2,x3,hg,r0,r1⟩:=fin.out w5 n d HX4.out.2
 have HF:=zh hg
 clear hg fin HX4
 go_wp2_with fail
 exact zy (v:=.tuple #[.agg #[u64 n,u64 d],i64 0]) (by simp[results,Tryz.results133,go_sem,r0,r1]) rfl ⟨rfl,HF.out⟩
end Go.Proofs.YtepelooebggliaaGreatDoor
namespace Go.Proofs.YtepelooebggliaaGreatDoor
open Go.RowKit
theorem jQ:(A_.info? 172).map (λ i=>(i.zero,i.size,i.bytes))=some (some (.agg #[u64 0,u64 0]),2,16):=by kernel_rfl
theorem zAf (X:Nat) (nm:List UInt8) (v:J_) (zs:List Int) (wv:Int) (q:J_) (qs:List (Int×Int)) (gn:Int) (ge rk:J_) (f:Int) (l:List UInt8) (n:Nat) (w:I_) (h:D2 w X nm v zs wv q qs gn ge rk f) (hd:BI l n) (hn:n<18446744073709551616) :
  H_ A_ 92 #[pt X,.int .i32 97,str l] w λ e w'=>e=.returned (.tuple #[])/\D2 w' X nm v zs n q qs gn ge rk 0/\Kept (λ j=>j=X\/v.ownBlock=some j) w w':=by
 have HN:=zh (Du l n hd hn w)
 have HH:=zh h
 have hXl:=h.blk.lt
 clear h hd
 go_enter Tryz.func92,Tryz.ntmps92
 go_wp2_with fail
 refine HN.out.mono ?_
 rintro e w1 ⟨rfl,k1⟩
 have hb:=HH.out.grew k1
 have e2:=hb.blk.cell 2
 have e7:=hb.blk.cell 7
 have f2:=hb.blk.frozen 2
 have f7:=hb.blk.frozen 7
 simp at e2 e7
 have HF:Hid (∀ fo:Int,D2 ((w1.setCell ⟨X,2,none⟩ (u64 n)).setCell ⟨X,7,none⟩ (i64 fo)) X nm v zs n q qs gn ge rk fo/\Kept (λ j=>j=X\/v.ownBlock=some j) w ((w1.setCell ⟨X,2,none⟩ (u64 n)).setCell ⟨X,7,none⟩ (i64 fo))):=λ fo=>by
  have gX:Kept (·=X) w1 ((w1.setCell ⟨X,2,none⟩ (u64 n)).setCell ⟨X,7,none⟩ (i64 fo)):=((zr (·=X) w1).setCell (p:=⟨X,2,none⟩) (.inl rfl) _).setCell (p:=⟨X,7,none⟩) (.inl rfl) _;refine⟨⟨?_,hb.own.kept gX (λ j hj h=>?_),Kept.own gX hb.ownq (λ j hj h=>?_)⟩,(Ac.kept k1).trans (gX.mono λ i hi h=>.inl h)⟩
  ·have:=(hb.blk.set 2 (u64 n)).set 7 (i64 fo);simpa using this
  ·have h:j=X:=h;have:=(hb.own.lt j hj).1;omega
  ·have h:j=X:=h;have:=(hb.ownq.lt j hj).1;omega
 clear HN hb
 go_wp2_with fail
 go_end0
 exact⟨rfl,HF.out _⟩
theorem zAk (X:Nat) (nm:List UInt8) (v:J_) (zs:List Int) (wv:Int) (q:J_) (qs:List (Int×Int)) (gn:Int) (ge rk:J_) (f:Int) (a b:List UInt8) (n d:Nat) (w:I_) (h:D2 w X nm v zs wv q qs gn ge rk f) (h1:BI a n) (h2:BI b d) (hn:n<=1048576) (fP:1<=d) (hd:d<=1048576) (ha:(47:UInt8)∉a) (hl:a.length+b.length<=10000) (hz:qs.length<=1000) :
  H_ A_ 92 #[pt X,.int .i32 114,str (a++47::b)] w λ e w'=>e=.returned (.tuple #[])/\(∃ q',D2 w' X nm v zs wv q' (qs++[((n:Int),(d:Int))]) gn ge rk 0)/\Kept (λ j=>j=X\/q.ownBlock=some j) w w':=by
 obtain⟨i0,Mt,Cu,BV,Cj⟩:=info_parts jQ
 have HP:=zh (eG a b n d h1 h2 hn fP hd ha hl w)
 obtain⟨l,tE⟩:=zn (a++47::b)
 rw[tE]at HP ⊢
 obtain⟨Z,hZ⟩:=zn (qs.length)
 have rP:=h.ownq
 unfold xG at rP
 rw[hZ]at hz rP
 obtain⟨A2,c2,GO⟩:=Ap rP
 subst GO
 have HO:=zh rP
 have HB:=DS h.blk h.own hZ (λ j hj=>Dt h.own h.ownq (by decide) (j:=j) hj)
 have hXl:=h.blk.lt
 clear h h1 h2 hn fP hd ha hl tE rP hZ
 go_enter Tryz.func92,Tryz.ntmps92
 go_wp2_with fail
 refine HP.out.mono ?_
 rintro e w2 ⟨rfl,g2⟩
 obtain⟨w3,Dj⟩:=zn (w2.alloc (.cells #[u64 n,u64 d] 172))
 obtain⟨R,hR⟩:=zn (w2.heap.size)
 have bR:Am w3 R 172 #[u64 n,u64 d]:=by rw[<- Dj,<-hR];exact zv _ _ _
 have g3:Ac w w3:=g2.trans (by rw[<- Dj];exact Ha _ _ _)
 have b3:=HB.out.1.grew g3
 have nX:¬ (K_ A2 Z c2).ownBlock=some X:=λ h=>by have:=(HO.out.lt _ h).1;omega
 have nR:¬ (K_ A2 Z c2).ownBlock=some R:=λ h=>by have:=(HO.out.lt _ h).2;have:=g2.size;omega
 have HC:Hid (∀ w',Kept (λ j=>(K_ A2 Z c2).ownBlock=some j) w3 w'->w'.cell? ⟨X,3,none⟩=some (.slice A2 Z c2)/\w'.cell? ⟨R,0,none⟩=some (.int .u64 n)/\w'.cell? ⟨R,1,none⟩=some (.int .u64 d)):=λ w' k=>by
  have p:=(b3.kept k nX).cell 3;have r0:=(bR.kept k nR).cell 0;have r1:=(bR.kept k nR).cell 1;simp at p r0 r1;exact⟨p,r0,r1⟩
 have gz:Ac w3 w3.drew:=(zr _ _).drew
 have gzF:Kept (λ j=>(K_ A2 Z c2).ownBlock=some j) w3 w3.drew:=(zr _ _).drew
 have HG:=BP g3 b3
 have yp:X<w3.heap.size:=b3.lt
 clear HP g2 bR g3 b3 nR
 go_upto_region 11 with fail
 have e3:w2.alloc (.cells #[.int .u64 (n:Int),.int .u64 (d:Int)] 172)=w3:=Dj
 try rw [e3]
 try rw [hR]
 clear e3 Dj hR
 refine rG [14,17] (λ j=>(K_ A2 Z c2).ownBlock=some j) ?_
 refine pG 0 38 ?_
 refine pG 1 39 ?_
 refine pG 2 40 ?_
 refine pG 3 41 ?_
 refine pG 4 42 ?_
 refine pG 5 43 ?_
 refine tF 6 44 HC.out gzF ?_
 refine tF 7 45 HC.out gzF ?_
 refine pG 10 48 ?_
 refine sG 8 46 (λ K Aj=>?_)
 go_simp
 obtain⟨y1,Br⟩:=zn ((World.alloc w3 (.cells #[.int .u64 (n:Int),.int .u64 (d:Int)] 172)).drew)
 have k1:Ac w3.drew y1:=by rw[<- Br];exact Kept.newD _ _ _
 have bv:Am y1 w3.heap.size 172 #[.int .u64 (n:Int),.int .u64 (d:Int)]:=by rw[<- Br];exact zv _ _ _
 obtain⟨S,hS⟩:=zn (w3.heap.size)
 have hXS:X+1<=y1.heap.size:=by have:=bv.lt;omega
 rw[hS]at bv
 rw[Br,hS]
 clear Br
 refine Aj (.slice (some ⟨S,0,none⟩) 1 1) _ (λ _=>Ac.kept k1) ?_
 clear Aj
 simp only[sA]
 refine sG 9 47 (λ K Aj=>?_)
 have Nd:Hid (∀ j u,([.int .u64 (n:Int),.int .u64 (d:Int)]:List J_)[j]? = some u->y1.cell? ((⟨S,0,none⟩:Addr).add j)=some u):=zh (World.news_of_block bv)
 refine wp_append_lies _ (.tmp 44) (.tmp 46) 90 (by rfl) (X+1) 172 i0 (.agg #[.int .u64 0,.int .u64 0]) 2 16 Tryz.underlying90 Mt Cu BV Cj (by rfl) (by omega) (.slice A2 Z c2) Z (qs.flatMap λ r=>[u64 r.1,u64 r.2]) (by rfl) (Ac.own ((HG.out.1.trans gz).trans k1) HO.out) ⟨S,0,none⟩ 1 1 [.int .u64 (n:Int),.int .u64 (d:Int)] (by rfl) (by rfl) Nd.out ?_ (by omega) ?_ ?_ ?_ _ rfl ?_
 ·intro u hu;simp at hu;rcases hu with rfl | rfl<;>rfl
 ·unfold maxLen;omega
 ·omega
 ·exact hXS
 intro g cp wa Bb AD Iv _
 refine Aj (.slice (some ⟨g,0,none⟩) (Z+1) cp) _ (λ _=>(zr _ _).grown AD (λ k hk=>.inl hk)) ?_
 clear Aj
 simp only[sA]
 refine pG 11 49 ?_
 refine pG 12 50 ?_
 refine pG 13 51 ?_
 refine DH 14 (λ K Aj=>?_)
 have kA:Kept (λ j=>(K_ A2 Z c2).ownBlock=some j) w wa:=(Ac.kept ((HG.out.1.trans gz).trans k1)).grown AD (λ k hk=>.inl hk)
 have OR:=HB.out.1.kept kA nX
 have a3:=OR.cell 3
 have b3:=OR.frozen 3
 have t3:=OR.set 3 (.slice (some ⟨g,0,none⟩) (Z+1) cp)
 have a7:=t3.cell 7
 have b7:=t3.frozen 7
 simp at a3 a7
 have HF:Hid ((∃ q',D2 ((wa.setCell ⟨X,3,none⟩ (.slice (some ⟨g,0,none⟩) (Z+1) cp)).setCell ⟨X,7,none⟩ (i64 0)) X nm v zs wv q' (qs++[((n:Int),(d:Int))]) gn ge rk 0)/\Kept (λ j=>j=X\/(K_ A2 Z c2).ownBlock=some j) w ((wa.setCell ⟨X,3,none⟩ (.slice (some ⟨g,0,none⟩) (Z+1) cp)).setCell ⟨X,7,none⟩ (i64 0))):=by
  have gX:Kept (·=X) wa ((wa.setCell ⟨X,3,none⟩ (.slice (some ⟨g,0,none⟩) (Z+1) cp)).setCell ⟨X,7,none⟩ (i64 0)):=((zr (·=X) wa).setCell (p:=⟨X,3,none⟩) (.inl rfl) _).setCell (p:=⟨X,7,none⟩) (.inl rfl) _;have hgB:X+1<=g:=(Bb.lt g rfl).1;refine⟨⟨.slice (some ⟨g,0,none⟩) (Z+1) cp,?_,?_,?_⟩,?_⟩
  ·have:=t3.set 7 (i64 0);simpa using this
  ·exact Kept.own gX (Kept.own kA HB.out.2.1 (λ j hj h=>HB.out.2.2.2 j hj h)) (λ j hj h=>by
    have h:j=X:=h;have:=(HB.out.2.1.lt j hj).1;omega)
  ·unfold xG;rw[List.length_append,HB.out.2.2.1,List.flatMap_append];refine Kept.own gX ?_ (λ j hj h=>by
    obtain rfl:g=j:=Option.some.inj hj;have h:g=X:=h;omega)
   simpa using Bb
  ·exact(kA.mono λ i hi h=>.inr h).trans (gX.mono λ i hi h=>.inl h)
 clear Bb AD kA OR t3 nX
 go_simp
 refine Aj _ (λ h=>absurd (by simp) h) ?_
 clear Aj
 refine pG 15 52 ?_
 refine pG 16 53 ?_
 refine DH 17 (λ K Aj=>?_)
 go_simp
 refine Aj _ (λ h=>absurd (by simp) h) ?_
 clear Aj
 refine dG ?_
 clear HC
 go_wp2_with fail
 go_end0
 exact⟨rfl,HF.out⟩
def IA (a:Arg):Prop:=a.k.toNat<128/\∀ (X:Nat) (nm:List UInt8) (v:J_) (s:St) (q:J_) (gn:Int) (ge rk:J_) (w:I_),D2 w X nm v s.zs s.wv q s.qs gn ge rk s.f->s.zs.length<=1000->s.qs.length<=1000 ->
  H_ A_ 92 #[pt X,.int .i32 (a.k.toNat:Int),str a.l] w λ e w'=>e=.returned (.tuple #[])/\(∃ v' q',D2 w' X nm v' (Iu s a).zs (Iu s a).wv q' (Iu s a).qs gn ge rk (Iu s a).f)/\Kept (λ j=>j=X\/v.ownBlock=some j\/q.ownBlock=some j) w w'
theorem FC.take {a:Arg} (ha:FC a):IA a:=by
 refine⟨?_,λ X nm v s q gn ge rk w h hz _=>bm X nm v s q gn ge rk a w h ha hz⟩;unfold FC at ha;rcases ha with h | h | h | h | h<;>(rw[h.1];decide)
theorem xL (l:List UInt8) (n:Nat) (hd:BI l n) (hn:n<18446744073709551616):IA ⟨97,l,n,0⟩:=by
 refine⟨(by decide:(97:UInt8).toNat<128),λ X nm v s q gn ge rk w h _ _=>?_⟩;exact(zAf X nm v s.zs s.wv q s.qs gn ge rk s.f l n w h hd hn).mono λ e w' ⟨h1,h2,h3⟩=>⟨h1,⟨v,q,h2⟩,h3.mono λ i hi h=>h.imp id .inl⟩
theorem pV (a b:List UInt8) (n d:Nat) (h1:BI a n) (h2:BI b d) (hn:n<=1048576) (fP:1<=d) (hd:d<=1048576) (ha:(47:UInt8)∉a) (hl:a.length+b.length<=10000):IA ⟨114,a++47::b,n,d⟩:=by
 refine⟨(by decide:(114:UInt8).toNat<128),λ X nm v s q gn ge rk w h _ hq=>?_⟩;exact(zAk X nm v s.zs s.wv q s.qs gn ge rk s.f a b n d w h h1 h2 hn fP hd ha hl hq).mono λ e w' ⟨h1,⟨q',h2⟩,h3⟩=>⟨h1,⟨v,q',h2⟩,h3.mono λ i hi h=>h.imp id .inr⟩
theorem nC (s:St) (a:Arg):(Iu s a).qs.length<=s.qs.length+1:=by
 unfold Iu;split
 ·simp
 ·split
  ·simp
  ·split<;>simp
theorem jd (l:List Arg):∀ s:St,(BJ s l).qs.length<=s.qs.length+l.length:=by
 induction l with
 | nil=>intro s;simp[BJ]
 | cons a l ih =>
  intro s;have h1:=ih (Iu s a);have h2:=nC s a;have:BJ s (a::l)=BJ (Iu s a) l:=rfl;rw[this];simp;omega
theorem pY (X i cap:Nat) (A:Option Addr) (Bv:List Arg) (gn:Int) (ge rk:J_) (w:I_) (hi:i<13) (h0:i≠0) (h1:i≠1) (rA:H_ A_ 91 #[str (Af i),i64 Bv.length] w λ e w'=>e=.returned (.tuple #[str (Bv.map (·.k)),.bool true])/\Ac w w') (hall:∀ a∈Bv,IA a)
  (Hs:∀ k,k<Bv.length->(BJ ⟨[],0,[],0⟩ (Bv.take k)).f=0) (hT:CU w A (Bv.map (·.l))) (Bg:Bv.length<=cap) (hlen:Bv.length<=100) (h:D2 w X (Af i) (.slice none 0 0) [] 0 (.slice none 0 0) [] gn ge rk 0) (hA:∀ a,A=some a->a.block<X) :
  H_ A_ 56 #[pt X,.slice A Bv.length cap] w λ e w'=>e=.returned (.tuple #[])/\(∃ v q,D2 w' X (Af i) v (BJ ⟨[],0,[],0⟩ Bv).zs (BJ ⟨[],0,[],0⟩ Bv).wv q (BJ ⟨[],0,[],0⟩ Bv).qs gn ge rk (BJ ⟨[],0,[],0⟩ Bv).f)/\Kept (λ j=>X<=j) w w':=by
 have eL:((bs (Af i)).toList==[76,79,65,68])=false:=by
  rw[Al];exact beq_eq_false_iff_ne.2 (λ e=>h0 (EP hi (by decide) (e.trans (show [76,79,65,68]=Af 0 from rfl))))
 have eB:((bs (Af i)).toList==[66,85,73,76,68])=false:=by
  rw[Al];exact beq_eq_false_iff_ne.2 (λ e=>h1 (EP hi (by decide) (e.trans (show [66,85,73,76,68]=Af 1 from rfl))))
 have hXl:=h.blk.lt
 obtain⟨L,hL⟩:=zn (Bv.length)
 have HK:=zh rA
 rw[hL]at HK
 have Kn:(Bv.map (·.k)).length=L:=by rw[D_,hL]
 obtain⟨kd,OU⟩:=zn (Bv.map (·.k))
 have hk:kd=Bv.map (·.k):=OU.symm
 rw[OU]at HK Kn
 have c0:=h.blk.cell 0
 simp at c0
 have HR:=zh h
 have HA:=zh (show _/\_/\_/\_/\_/\_/\_ from ⟨hk,hall,Hs,hT,hA,hL,Kn⟩)
 obtain⟨nm,Cw⟩:=zn (Af i)
 rw[Cw]at eL eB HK c0 HR ⊢
 rw[hL]at Bg hlen ⊢
 clear h hk hall Hs hT hA hL OU Cw Kn hi h0 h1 rA
 go_enter Tryz.func56,Tryz.ntmps56
 go_wp2_with fail
 go_step3
 go_wp2_with fail
 refine HK.out.mono ?_
 rintro e w1 ⟨rfl,k1⟩
 have HR1:=zh (HR.out.grew k1)
 have K1:=zh k1
 have hXl1:=k1.size
 clear HK HR k1 c0 eL eB
 go_wp2_with fail
 go_step3
 go_wp2_with fail
 obtain⟨W0,EH⟩:=zn (w1.iter (bs kd) 0)
 have S0:Hid (RsS w X w1.heap.size nm kd Bv 0 gn ge rk W0):=by
  have g1:Ac w1 W0:=by rw[<- EH];exact(zr _ _).alloc _
  refine⟨⟨_,_,HR1.out.grew g1⟩,by rw[<- EH];exact World.iter_heap _ _ _,(Ac.kept (K1.out.trans g1)),rfl⟩
 rw[EH]
 have hIX:X<w1.heap.size:=by omega
 clear HR1 K1 EH
 go_loopw [] (λ wr=>∃ (k:Nat),k<=L/\Hid (RsS w X w1.heap.size nm kd Bv k gn ge rk wr)) (λ wr=>L-wr.iterPos w1.heap.size)
 case atStart=>exact⟨0,by omega,S0⟩
 case round =>
  clear S0;obtain⟨k,hk,hS⟩:=hrel;have HPW:Hid (wr.iterPos w1.heap.size=k):=by show _=_;unfold World.iterPos;rw[hS.out.it]
  by_cases AH:k<L
  ·as_aux_lemma =>
   obtain⟨a,ha⟩:=zx (l:=Bv) (i:=k) (by rw[HA.out.2.2.2.2.2.1];exact AH);have Ba:=HA.out.2.1 a (zm ha);have OU:kd[k]? = some a.k:=by rw[HA.out.1,F_,ha];rfl
   have zB:(Bv.map (·.l))[k]? = some a.l:=by rw[F_,ha];rfl
   have nN:=Ba.1;obtain⟨W1,JK,hit,tD⟩:=Jh wr w1.heap.size kd k 0 a.k hS.out.it OU nN;obtain⟨v,q,JL⟩:=hS.out.rd;have IJ:=JL.other tD hS.out.it (λ cs t r=>by simp);have hT:=HA.out.2.2.2.1;obtain⟨b,off,hAA,hb,hc⟩:=hT k _ zB;have hbX:b<X:=HA.out.2.2.2.2.1 _ hAA;have Mr:=(hS.out.kept.cell hc (by show ¬ X<=b;omega));have Jp:=tD.cell Mr (by show ¬ b=w1.heap.size;omega);subst hAA;have n8:=zh (Ba.2 X nm v (BJ ⟨[],0,[],0⟩ (Bv.take k)) q gn ge rk W1 IJ (by have:=OJ (Bv.take k) ⟨[],0,[],0⟩;simp[G_]at this;omega) (by have:=jd (Bv.take k) ⟨[],0,[],0⟩;simp[G_]at this;omega));rw[<- Mi ha]at n8;have k0:(0:Int)<=(k:Int):=(by omega);have k1:(k:Int)<(L:Int):=(by omega);have k2:(L:Int)<=(cap:Int):=(by omega);have nI:∀ j,(j=X\/v.ownBlock=some j\/q.ownBlock=some j)->¬ j=w1.heap.size:=λ j h e=>by
    subst e;rcases h with h | h | h
    ·omega
    ·obtain⟨_,c,dJ⟩:=Ao IJ.own h;rw[hit]at dJ;cases dJ
    ·obtain⟨_,c,dJ⟩:=Ao IJ.ownq h;rw[hit]at dJ;cases dJ
   have hOW:Hid (∀ j,(j=X\/v.ownBlock=some j\/q.ownBlock=some j)->X<=j):=λ j h=>by
    rcases h with h | h | h
    ·omega
    ·have:=(IJ.own.lt j h).1;omega
    ·have:=(IJ.ownq.lt j h).1;omega
   obtain⟨cz,LQ⟩:∃ z:Int,(a.k.toNat:Int)=z:=⟨_,rfl⟩;rw[LQ]at JK n8;obtain⟨wd,o8⟩:∃ x,a.l=x:=⟨_,rfl⟩;rw[o8]at Jp n8;obtain⟨fo,tt⟩:=zn ((BJ ⟨[],0,[],0⟩ (Bv.take (k+1))).f);have xl:=zh tt;have cM:=Gt hit tD nI hS.out.kept hIX;clear ha Ba OU zB nN hit tD JL IJ hT hb hbX hc Mr LQ o8 tt hS nI;go_wp2_with fail;refine n8.out.mono ?_;rintro e w3 ⟨rfl,⟨v',q',dU⟩,k3⟩;have h7:=dU.blk.cell 7;simp at h7;rw[xl.out]at h7;have MW:=zh dU;have tZ:Hid (w3.heap[w1.heap.size]? = some (.stringIter (bs kd) (k+1))):=(k3.block _ (Array.getElem?_eq_some_iff.1 cM.out.1).1 (λ h=>cM.out.2.2.1 _ h rfl)).trans cM.out.1;have K3:Hid (Kept (λ j=>X<=j) w w3):=(cM.out.2.2.2.1.trans (cM.out.2.1.mono λ i hi h=>by have h:i=w1.heap.size:=h;omega)).trans (k3.mono λ i hi h=>hOW.out i h);clear n8 dU k3 JK Jp;by_cases hf:fo=0
   ·subst hf;have Ci:Hid (RsS w X w1.heap.size nm kd Bv (k+1) gn ge rk w3):=⟨⟨v',q',MW.out⟩,tZ.out,K3.out,xl.out⟩;have BH:w3.iterPos w1.heap.size=k+1:=by unfold World.iterPos;rw[tZ.out]
    have uZ:=zh BH;clear tZ K3 MW cM BH;go_wp2_with fail;go_roundw
    case rel=>exact⟨k+1,by omega,Ci⟩
    case measure=>rw[uZ.out,HPW.out];omega
   ·have hkL:k+1=L:=by
     apply Classical.byContradiction;intro Bm;have:=HA.out.2.2.1 (k+1) (by rw[HA.out.2.2.2.2.2.1];omega);rw[xl.out]at this;exact hf this
    have hall:Bv.take (k+1)=Bv:=E_ (by rw[HA.out.2.2.2.2.2.1];omega);have hfb:(fo==0)=false:=beq_eq_false_iff_ne.2 hf;have hfb2:(fo != 0)=true:=by rw[bne_iff_ne];exact hf
    have iv:=BP MW.out K3.out;rw[hall]at iv;clear tZ K3 MW cM hall hkL hf;go_wp2_with fail;rw[Exit.noGoto_normal];go_end0;exact⟨rfl,⟨v',q',iv.out.1⟩,iv.out.2⟩
  ·as_aux_lemma =>
   obtain rfl:k=L:=(by omega);have JK:=Gp wr w1.heap.size kd 0 (by rw[HA.out.2.2.2.2.2.2];exact hS.out.it);have hall:Bv.take k=Bv:=E_ (by rw[HA.out.2.2.2.2.2.1];omega);have iv:=BP hS.out.rd hS.out.kept;rw[hall]at iv;clear hS hall;go_wp2_with fail;rw[Exit.noGoto_normal];go_end0;exact⟨rfl,iv.out⟩
theorem aG (i:Nat) (Bv:List Arg) (hi:i<13) (h0:i≠0) (h1:i≠1) (HK:∀ W,H_ A_ 91 #[str (Af i),i64 Bv.length] W λ e w'=>e=.returned (.tuple #[str (Bv.map (·.k)),.bool true])/\Ac W w') (hall:∀ a∈Bv,IA a) (Hs:∀ k,k<Bv.length->(BJ ⟨[],0,[],0⟩ (Bv.take k)).f=0) (Ba:∀ a∈Bv,Cp a.l) (hlen:(At (Af i::Bv.map (·.l))).length<=65536) (hn:Bv.length<=100) (f:Nat) (hf:(BJ ⟨[],0,[],0⟩ Bv).f=f) (w:I_) :
  H_ A_ 34 #[str (At (Af i::Bv.map (·.l)))] w λ e w'=>∃ c:Cm,JB c f e/\c.nm=Af i/\EA (BJ ⟨[],0,[],0⟩ Bv) w' c/\Ac w w':=by
 obtain⟨S,hS⟩:=zn (BJ ⟨[],0,[],0⟩ Bv)
 rw[hS]at hf ⊢
 have h3:(Bv.map (·.l)).length<16384:=by rw[D_];omega
 have h4:∀ x∈Bv.map (·.l),Cp x:=λ x hx=>by obtain⟨a,ha,rfl⟩:=List.mem_map.1 hx;exact Ba a ha
 have h5:mJ i (Bv.map (·.l)) (λ W c f'=>f'=f/\EA (S) W c):=by
  intro W X A cap h hT Bg hA;rw[D_]at Bg ⊢;refine(pY X i cap A Bv 0 _ _ W hi h0 h1 (HK W) hall Hs hT Bg hn h hA).mono ?_;rintro e W' ⟨rfl,⟨v,q,JL⟩,k⟩;rw[hS]at JL;obtain⟨A1,c1,rfl⟩:=Ap JL.own;obtain⟨A2,c2,rfl⟩:=Ap JL.ownq;have hb:=JL.blk;rw[hf]at hb;exact⟨rfl,⟨⟨Af i,A1,S.zs.length,c1,S.wv,A2,S.qs.length,c2,0,none,0,0,none,0,0⟩,f,hb,⟨rfl,rfl,rfl,_,JL.own⟩,rfl⟩,k⟩
 have h6:∀ W W' c f' T cs,(f'=f/\EA S W c)->Kept (λ j=>j=T) W W'->Am W T 92 cs->(f'=f/\EA S W' c):=by
  rintro W W' c f' T cs ⟨h0,h1,h2,B,h3⟩ k hT;exact⟨h0,h1,h2,B,aE h3 k hT (by decide)⟩
 have h7:=ES i hi (Bv.map (·.l)) (λ W c f'=>f'=f/\EA S W c) h4 hlen h3 h5 h6 w
 refine h7.mono ?_
 rintro e w' ⟨c,f',he,Cw,⟨e1,hd⟩,g⟩
 rw[e1]at he
 exact⟨c,he,Cw,hd,g⟩
end Go.Proofs.YtepelooebggliaaGreatDoor
namespace Go.Proofs.YtepelooebggliaaGreatDoor
open Go.RowKit Go.Shelf
theorem uF (W:I_):H_ A_ 129 #[.string ⟨#[110]⟩,i64 2] W λ e W'=>e=.returned (str [110,110])/\Ac W W':=by
 refine(Tryz.strings_Repeat_main ⟨#[110]⟩ 2 W (by omega) (by omega) (by decide) (by decide)).mono ?_;rintro e W' ⟨h1,h2⟩;exact⟨h1.trans (congrArg (λ x=>Ending.returned (.string x)) rfl),Ac.of_below h2⟩
theorem eo (w:I_):H_ A_ 91 #[str (Af 9),i64 2] w λ e w'=>e=.returned (.tuple #[str [110,110],.bool true])/\Ac w w':=by
 have e9:((bs (Af 9)).toList==[84,79,85,82])=true:=by rw[Al];rfl
 obtain⟨nm,Cw⟩:=zn (Af 9);rw[Cw]at e9 ⊢;have HR:=zh uF;have HG:Hid (Ac w (w.alloc (.cells #[str nm] 9))):=Ha _ _ _;clear Cw;go_enter Tryz.func91,Tryz.ntmps91;go_wp2_with fail;refine(HR.out _).mono ?_;rintro e w1 ⟨rfl,k1⟩;have H1:=zh (HG.out.trans k1);clear k1;go_wp2_with fail;go_ret2;exact⟨rfl,H1.out⟩
def iI (a:Arg):Prop:=IA a/\Cp a.l/\a.l.length<=41/\a.k≠119
theorem sK (n:Nat):(47:UInt8)∉dec n:=λ h=>by
 have:=JE n 47 h;simp at this
theorem Mg {n:Nat} (h:n<=1048576):(dec n).length<=20:=BL (by omega)
theorem Ls (n:Nat) (h:n<=4095):iI ⟨110,dec n,n,0⟩:=⟨FC.take (.inl ⟨rfl,Bu (by omega),h⟩),Cf _,by have:=Mg (n:=n) (by omega);simp only;omega,(by decide:(110:UInt8)≠119)⟩
theorem wstK (n:Nat) (h0:1<=n) (h:n<=1024):iI ⟨107,dec n,n,0⟩:=⟨FC.take (.inr (.inr (.inl ⟨rfl,Bu (by omega),h0,h⟩))),Cf _,by have:=Mg (n:=n) (by omega);simp only;omega,(by decide:(107:UInt8)≠119)⟩
theorem wstO (n:Nat) (h:n<=100):iI ⟨111,dec n,n,0⟩:=⟨FC.take (.inr (.inr (.inr (.inl ⟨rfl,Bu (by omega),h⟩)))),Cf _,by have:=Mg (n:=n) (by omega);simp only;omega,(by decide:(111:UInt8)≠119)⟩
theorem wstA (n:Nat) (h:n<=100):iI ⟨97,dec n,n,0⟩:=⟨xL _ _ (Bu (by omega)) (by omega),Cf _,by have:=Mg (n:=n) (by omega);simp only;omega,(by decide:(97:UInt8)≠119)⟩
theorem wstR (n d:Nat) (h:n<=1048576) (h0:1<=d) (h1:d<=1048576):iI ⟨114,dec n++47::dec d,n,d⟩:=by
 have q1:=Mg h;have q2:=Mg h1;refine⟨pV _ _ _ _ (Bu (by omega)) (Bu (by omega)) h h0 h1 (sK n) (by omega),⟨by simp,λ c hc=>?_⟩,by simp;omega,(by decide:(114:UInt8)≠119)⟩;rcases List.mem_append.1 hc with hc | hc
 ·exact(Cf n).2 c hc
 ·rcases C_.1 hc with rfl | hc
  ·decide
  ·exact(Cf d).2 c hc
theorem Mj (l:List Arg):∀ s:St,s.f=0->(∀ a∈l,a.k≠119)->(BJ s l).f=0:=by
 induction l with
 | nil=>intro s h _;exact h
 | cons a l ih =>
  intro s _ h;have ha:=h a (by simp);refine ih (Iu s a) ?_ (λ b hb=>h b (by simp[hb]));unfold Iu;rw[if_neg ha];split
  ·rfl
  ·split<;>rfl
section
variable {w:I_} {X Y B:Nat} {hops settles:Int} {N:Nat} {es:List AB} {hx:Option Hx}
theorem Dr {fq:Nat} (hcf:∀ (args:Array J_) (W:I_),(callFunc fq args).run A_ W=.ok (.enter fq args) W) (i:Nat) (Bv:List Arg) (hi:2<=i/\i<13)
  (HK:∀ W,H_ A_ 91 #[str (Af i),i64 Bv.length] W λ e w'=>e=.returned (.tuple #[str (Bv.map (·.k)),.bool true])/\Ac W w') (ha:∀ a∈Bv,iI a) (hl:Bv.length<=10) (h:Au w X Y B hops settles 3 N es hx)
  (hW:∀ W,H_ A_ 35 #[str (Af i)] W λ e W'=>e=.returned (.func (.func fq) #[] #[])/\W=W')
  (CW:∀ {W:I_} (c:Cm),Au W X Y B hops settles 3 N es hx->(3:Nat)<=4->(3:Nat)≠2->∀ f:Nat,(Ft 3 2:Int)=f->1<=f/\f<15->H_ A_ fq #[pt X,CV c] W λ r w'=>r=.returned (Bx f)/\Au w' X Y B hops settles 3 N es hx/\Ac W w') :
  H_ A_ 14 #[pt X,str (At (Af i::Bv.map (·.l)))] w λ e w'=>e=.returned (.string (IC 13))/\Au w' X Y B hops settles 3 N es hx/\Kept (λ j=>j=X\/j=Y) w w':=by
 have h119:∀ a∈Bv,a.k≠119:=λ a h=>(ha a h).2.2.2
 have hlen:(At (Af i::Bv.map (·.l))).length<=65536:=by
  have h1:=EO (Af i) (Bv.map (·.l)) 41 (λ y hy=>by obtain⟨a,h,rfl⟩:=List.mem_map.1 hy;exact(ha a h).2.2.1);have h2:=(Ev hi.2).2.2.2.2;rw[D_]at h1;omega
 refine aw w X _ 13 (by omega) _ ((FE hcf _ (Af i) (λ _ _=>True) (λ W v=>v=Bx (13:Nat)/\Au W X Y B hops settles 3 N es hx) h (by omega) (λ W=>?_) (λ _ _ _ _ _=>trivial) hW (λ W c _ Cw Od Df=>?_) ?_).mono ?_) (λ _ _=>Au.kK)
 ·refine(aG i Bv hi.2 (by omega) (by omega) HK (λ a h=>(ha a h).1) (λ k _=>Mj _ _ rfl λ a h=>h119 a (List.mem_of_mem_take h)) (λ a h=>(ha a h).2.1) hlen (by omega) 0 (Mj _ _ rfl h119) W).mono ?_;rintro r W' ⟨c,hp,hn,_,g⟩;rcases hp with ⟨_,rfl⟩ | ⟨h,_⟩
  ·exact⟨c,rfl,hn,trivial,g⟩
  ·exact absurd rfl h
 ·refine(CW c Od (by omega) (by omega) 13 (by decide) (by omega)).mono ?_;rintro e W' ⟨rfl,Ib,g⟩;exact⟨((13:Nat):Int),[],none,0,0,none,0,0,rfl,⟨rfl,Ib⟩,Ac.kept g⟩
 ·rintro W W' v T cs ⟨rfl,Ib⟩ k hT;exact⟨rfl,Ib.farT k hT⟩
 ·rintro e w' ⟨f',LZ,A,n,c1,A2,n2,c2,rfl,⟨hv,Ib⟩,k⟩;exact⟨by rw[hv],Ib,k⟩
def vh (X Y B:Nat) (hops settles:Int) (N:Nat) (es:List AB) (hx:Option Hx) (w:I_) (e:Ending) (w':I_):Prop:=e=.returned (.string (IC 13))/\Au w' X Y B hops settles 3 N es hx/\Kept (λ j=>j=X\/j=Y) w w'
theorem NR (s t:Nat) (hs:s<=4095) (ht:t<=4095) (h:Au w X Y B hops settles 3 N es hx):H_ A_ 14 #[pt X,str (At [Af 2,dec s,dec t])] w (vh X Y B hops settles N es hx w) :=
 Dr (λ _ _=>by kernel_rfl) 2 [⟨110,dec s,s,0⟩,⟨110,dec t,t,0⟩] (by omega) (λ W=>Ea 2 2 true W (by omega) (by omega) rfl) (λ a ha=>by
  simp only[C_,B_,or_false]at ha;rcases ha with rfl | rfl
  ·exact Ls s hs
  ·exact Ls t ht) (by simp) h Mw L8
theorem eR (s t:Nat) (hs:s<=4095) (ht:t<=4095) (h:Au w X Y B hops settles 3 N es hx):H_ A_ 14 #[pt X,str (At [Af 5,dec s,dec t,dec 3])] w (vh X Y B hops settles N es hx w) :=
 Dr (λ _ _=>by kernel_rfl) 5 [⟨110,dec s,s,0⟩,⟨110,dec t,t,0⟩,⟨107,dec 3,3,0⟩] (by omega) (λ W=>Ea 5 3 true W (by omega) (by omega) rfl) (λ a ha=>by
  simp only[C_,B_,or_false]at ha;rcases ha with rfl | rfl | rfl
  ·exact Ls s hs
  ·exact Ls t ht
  ·exact wstK 3 (by omega) (by omega)) (by simp) h tO DJ
theorem bf (h:Au w X Y B hops settles 3 N es hx):H_ A_ 14 #[pt X,str (At [Af 8,dec 0,dec 5])] w (vh X Y B hops settles N es hx w) :=
 Dr (λ _ _=>by kernel_rfl) 8 [⟨110,dec 0,0,0⟩,⟨97,dec 5,5,0⟩] (by omega) (λ W=>Ea 8 2 true W (by omega) (by omega) rfl) (λ a ha=>by
  simp only[C_,B_,or_false]at ha;rcases ha with rfl | rfl
  ·exact Ls 0 (by omega)
  ·exact wstA 5 (by omega)) (by simp) h oP DJ
theorem bg (s t:Nat) (hs:s<=4095) (ht:t<=4095) (h:Au w X Y B hops settles 3 N es hx):H_ A_ 14 #[pt X,str (At [Af 9,dec s,dec t])] w (vh X Y B hops settles N es hx w) :=
 Dr (λ _ _=>by kernel_rfl) 9 [⟨110,dec s,s,0⟩,⟨110,dec t,t,0⟩] (by omega) (λ W=>eo W) (λ a ha=>by
  simp only[C_,B_,or_false]at ha;rcases ha with rfl | rfl
  ·exact Ls s hs
  ·exact Ls t ht) (by simp) h oQ DJ
theorem eQ (s t:Nat) (hs:s<=4095) (ht:t<=4095) (h:Au w X Y B hops settles 3 N es hx):H_ A_ 14 #[pt X,str (At [Af 4,dec s,dec t,dec 2,dec 1++47::dec 1,dec 1++47::dec 1,dec 1++47::dec 1])] w (vh X Y B hops settles N es hx w) :=
 Dr (λ _ _=>by kernel_rfl) 4 [⟨110,dec s,s,0⟩,⟨110,dec t,t,0⟩,⟨107,dec 2,2,0⟩,⟨114,dec 1++47::dec 1,1,1⟩,⟨114,dec 1++47::dec 1,1,1⟩,⟨114,dec 1++47::dec 1,1,1⟩] (by omega) (λ W=>Ea 4 6 true W (by omega) (by omega) rfl) (λ a ha=>by
  simp only[C_,B_,or_false]at ha;rcases ha with rfl | rfl | rfl | rfl | rfl | rfl
  ·exact Ls s hs
  ·exact Ls t ht
  ·exact wstK 2 (by omega) (by omega)
  all_goals exact wstR 1 1 (by omega) (by omega) (by omega)) (by simp) h tN bl
theorem eS (s t:Nat) (hs:s<=4095) (ht:t<=4095) (h:Au w X Y B hops settles 3 N es hx):H_ A_ 14 #[pt X,str (At [Af 6,dec s,dec t,dec 2,dec 2,dec 2++47::dec 1,dec 1++47::dec 1,dec 1++47::dec 1,dec 1++47::dec 1])] w (vh X Y B hops settles N es hx w) :=
 Dr (λ _ _=>by kernel_rfl) 6 [⟨110,dec s,s,0⟩,⟨110,dec t,t,0⟩,⟨107,dec 2,2,0⟩,⟨111,dec 2,2,0⟩,⟨114,dec 2++47::dec 1,2,1⟩,⟨114,dec 1++47::dec 1,1,1⟩,⟨114,dec 1++47::dec 1,1,1⟩,⟨114,dec 1++47::dec 1,1,1⟩] (by omega) (λ W=>Ea 6 8 true W (by omega) (by omega) rfl) (λ a ha=>by
  simp only[C_,B_,or_false]at ha;rcases ha with rfl | rfl | rfl | rfl | rfl | rfl | rfl | rfl
  ·exact Ls s hs
  ·exact Ls t ht
  ·exact wstK 2 (by omega) (by omega)
  ·exact wstO 2 (by omega)
  ·exact wstR 2 1 (by omega) (by omega) (by omega)
  all_goals exact wstR 1 1 (by omega) (by omega) (by omega)) (by simp) h tP DJ
end
end Go.Proofs.YtepelooebggliaaGreatDoor
