/- Walks of functions that the law reaches, and plain laws, part 16 of 20: lemmas for the proof in the last text; no condition. Shortened by program. -/
import Derived.Test.YtepelooebggliaaGreatDoorOv0
import Derived.Test.YtepelooebggliaaGreatDoorOv2
import Derived.Test.YtepelooebggliaaGreatDoorOv5
import Derived.Test.YtepelooebggliaaGreatDoorOv10
import Derived.Test.YtepelooebggliaaGreatDoorOv12
open Go.Proofs.Tryz renaming prog->A_,ntmps35->B_,func35->C_,results34->D_,results10->E_,ntmps10->F_,func10->G_
open Go renaming World->H_,Calls->I_
open Go.Value renaming oneCell'->J_
open Go.World renaming setRow->K_,alloc->L_,heap->M_
open List renaming mem_cons->N_,mem_flatMap->O_,length_map->Pa,length_append->Pb,not_mem_nil->Pc,length_cons->Pd
set_option maxHeartbeats 16000000
set_option maxRecDepth 100000
set_option linter.unusedVariables false
set_option linter.unusedSimpArgs false
namespace Go.Proofs.YtepelooebggliaaGreatDoor
open Go.RowKit
theorem oC (w:H_):I_ A_ 35 #[str (Am 0)] w λ e w'=>e=.returned (.func (.func 57) #[] #[])/\w=w':=by
 have e0:((bs (Am 0)).toList==[76,79,65,68])=true:=by rw[Ax];rfl
 obtain⟨nm,D1⟩:=zn (Am 0);rw[D1]at e0 ⊢;clear D1;go_enter C_,B_;go_wp2_with fail;go_ret;exact⟨rfl,rfl⟩
theorem jl (w:H_):I_ A_ 35 #[str (Am 1)] w λ e w'=>e=.returned (.func (.func 58) #[] #[])/\w=w':=by
 have e0:((bs (Am 1)).toList==[76,79,65,68])=false:=by rw[Ax];rfl
 have e1:((bs (Am 1)).toList==[66,85,73,76,68])=true:=by rw[Ax];rfl
 obtain⟨nm,D1⟩:=zn (Am 1);rw[D1]at e0 e1 ⊢;clear D1;go_enter C_,B_;go_wp2_with fail;go_ret;exact⟨rfl,rfl⟩
theorem OF (w:H_):I_ A_ 35 #[str (Am 7)] w λ e w'=>e=.returned (.func (.func 59) #[] #[])/\w=w':=by
 have e0:((bs (Am 7)).toList==[76,79,65,68])=false:=by rw[Ax];rfl
 have e1:((bs (Am 7)).toList==[66,85,73,76,68])=false:=by rw[Ax];rfl
 have e2:((bs (Am 7)).toList==[83,69,84,87])=true:=by rw[Ax];rfl
 obtain⟨nm,D1⟩:=zn (Am 7);rw[D1]at e0 e1 e2 ⊢;clear D1;go_enter C_,B_;go_wp2_with fail;go_ret;exact⟨rfl,rfl⟩
theorem oD (w:H_):I_ A_ 35 #[str (Am 12)] w λ e w'=>e=.returned (.func (.func 60) #[] #[])/\w=w':=by
 have e0:((bs (Am 12)).toList==[76,79,65,68])=false:=by rw[Ax];rfl
 have e1:((bs (Am 12)).toList==[66,85,73,76,68])=false:=by rw[Ax];rfl
 have e2:((bs (Am 12)).toList==[83,69,84,87])=false:=by rw[Ax];rfl
 have e3:((bs (Am 12)).toList==[81,85,73,84])=true:=by rw[Ax];rfl
 obtain⟨nm,D1⟩:=zn (Am 12);rw[D1]at e0 e1 e2 e3 ⊢;clear D1;go_enter C_,B_;go_wp2_with fail;go_ret;exact⟨rfl,rfl⟩
theorem jm (w:H_):I_ A_ 35 #[str (Am 2)] w λ e w'=>e=.returned (.func (.func 62) #[] #[])/\w=w':=by
 have e0:((bs (Am 2)).toList==[76,79,65,68])=false:=by rw[Ax];rfl
 have e1:((bs (Am 2)).toList==[66,85,73,76,68])=false:=by rw[Ax];rfl
 have e2:((bs (Am 2)).toList==[83,69,84,87])=false:=by rw[Ax];rfl
 have e3:((bs (Am 2)).toList==[81,85,73,84])=false:=by rw[Ax];rfl
 have e4:((bs (Am 2)).toList==[83,84,65,84])=false:=by rw[Ax];rfl
 have e5:((bs (Am 2)).toList==[68,85,77,80])=false:=by rw[Ax];rfl
 have e6:((bs (Am 2)).toList==[82,79,85,84,69])=true:=by rw[Ax];rfl
 obtain⟨nm,D1⟩:=zn (Am 2);rw[D1]at e0 e1 e2 e3 e4 e5 e6 ⊢;clear D1;go_enter C_,B_;go_wp2_with fail;go_ret;exact⟨rfl,rfl⟩
theorem oB (w:H_):I_ A_ 35 #[str (Am 3)] w λ e w'=>e=.returned (.func (.func 63) #[] #[])/\w=w':=by
 have e0:((bs (Am 3)).toList==[76,79,65,68])=false:=by rw[Ax];rfl
 have e1:((bs (Am 3)).toList==[66,85,73,76,68])=false:=by rw[Ax];rfl
 have e2:((bs (Am 3)).toList==[83,69,84,87])=false:=by rw[Ax];rfl
 have e3:((bs (Am 3)).toList==[81,85,73,84])=false:=by rw[Ax];rfl
 have e4:((bs (Am 3)).toList==[83,84,65,84])=false:=by rw[Ax];rfl
 have e5:((bs (Am 3)).toList==[68,85,77,80])=false:=by rw[Ax];rfl
 have e6:((bs (Am 3)).toList==[82,79,85,84,69])=false:=by rw[Ax];rfl
 have e7:((bs (Am 3)).toList==[68,73,83,84])=true:=by rw[Ax];rfl
 obtain⟨nm,D1⟩:=zn (Am 3);rw[D1]at e0 e1 e2 e3 e4 e5 e6 e7 ⊢;clear D1;go_enter C_,B_;go_wp2_with fail;go_ret;exact⟨rfl,rfl⟩
section
variable {w:H_} {X Y B:Nat} {Ah Ac:Int} {ph N:Nat} {es:List AJ} {hx:Option Hx}
theorem AB.did (h:AB w X Y B Ah Ac ph N es hx) (o:Obj):∃ left done,SvB (w.alloc o) X Y left done/\AB ((w.alloc o).setCell ⟨X,2,none⟩ (i64 (wrap64 (done+1)))) X Y B Ah Ac ph N es hx:=by
 obtain⟨left,done,h1,h2,h3⟩:=h;have g1:Af w (w.alloc o):=(zr _ _).alloc _;have b1:=Ao.grew h1 g1;refine⟨left,done,b1,left,wrap64 (done+1),?_,?_,h3⟩
 ·have:=b1.set 2 (i64 (wrap64 (done+1)));unfold SvB;simpa using this
 ·refine(h2.grew g1).kept ((zr (λ j=>j=X) _).setCell (p:=⟨X,2,none⟩) (.inl rfl) _) (λ e=>h3.1 e.symm) (λ j hj e=>?_);have:=h3.2.1;omega
theorem sB (line:ByteArray) (h:AB w X Y B Ah Ac 4 N es hx) :
  I_ A_ 10 #[pt X,.string line] w λ e w'=>e=.returned (BN 14)/\AB w' X Y B Ah Ac 4 N es hx/\Kept (λ j=>j=X) w w':=by
 obtain⟨T,hT⟩:=zn (w.heap.size)
 have hXT:X<T/\Y<T:=by rw[<- hT];exact h.lt
 obtain⟨left,done,L9,OK⟩:=h.did (.cells #[i64 0,.string ⟨#[]⟩,.slice none 0 0,.slice none 0 0,.slice none 0 0] 42)
 obtain⟨w0,Ll,g0,b0⟩:=zb w #[i64 0,.string ⟨#[]⟩,.slice none 0 0,.slice none 0 0,.slice none 0 0] 42 hT
 rw[Ll]at L9 OK
 have x2:=Ao.cell L9 2
 have f2:=Ao.frozen L9 2
 simp at x2
 obtain⟨w1,AT⟩:=zn (w0.setCell ⟨X,2,none⟩ (i64 (wrap64 (done+1))))
 rw[AT]at OK
 have k1:Kept (λ j=>j=X) w w1:=by rw[<- AT];exact(Af.kept (F:=λ j=>j=X) g0).setCell (p:=⟨X,2,none⟩) (.inl rfl) _
 have b1:Ao w1 T 42 #[i64 0,.string ⟨#[]⟩,.slice none 0 0,.slice none 0 0,.slice none 0 0]:=by rw[<- AT];exact b0.far (p:=⟨X,2,none⟩) (by show T≠X;omega) _
 have HP:=zh (OK.elim λ l h=>h.elim λ d h=>h.2.1.elim λ Ak h'=>h'.elim λ ck h'=>h'.elim λ ev h'=>h'.elim λ hv h'=>h'.elim λ c0 h'=>h'.elim λ c1 h'=>h'.elim λ c2 h'=>Ex ((4:Nat):Int) h.1 h'.blk)
 have H0:=Em OK k1 b1 hXT
 have HE:=zh (F2 14 (by omega) w1)
 have HT:=zh hT
 clear OK b0 g0 k1 b1 L9
 go_enter G_,F_
 go_upto_region 4 with fail
 have e0:w.alloc (.cells #[.int .i64 0,.string ⟨#[]⟩,.slice none 0 0,.slice none 0 0,.slice none 0 0] 42)=w0:=Ll
 have e1:w0.setCell ⟨X,2,none⟩ (.int .i64 (wrap64 (done+1)))=w1:=AT
 try rw [e0]
 try rw [e1]
 try rw [hT]
 clear e0 e1 Ll AT hT x2 f2
 go_wp2_with fail
 refine HP.out.mono ?_
 rintro e w9 ⟨rfl,rfl⟩
 clear HP
 go_wp2_with fail
 refine HE.out.mono ?_
 rintro e w3 ⟨rfl,g3⟩
 have HB:=zh (H0.out.2.2.1.grew g3)
 have t6:=HB.out.setRow #[i64 14,.string ⟨#[]⟩,.slice none 0 0,.slice none 0 0,.slice none 0 0]
 obtain⟨r0,r1,r2,r3,r4⟩:=Lo t6
 have HF:Hid (AB (w3.setRow T #[i64 14,.string ⟨#[]⟩,.slice none 0 0,.slice none 0 0,.slice none 0 0]) X Y B Ah Ac 4 N es hx/\Kept (λ j=>j=X) w (w3.setRow T #[i64 14,.string ⟨#[]⟩,.slice none 0 0,.slice none 0 0,.slice none 0 0])) :=
  ⟨(H0.out.1.grew g3).far ((zr (λ j=>j=T) _).setRow (.inl rfl) _) (Bl HB.out (by simp)),(H0.out.2.1.grew g3).setRow (.inr (by rw[HT.out];exact zl _)) _⟩
 clear t6 g3 HE H0
 unfold BN
 go_wp2_with (refine wpList_store_rowTo rfl 42 (.tmp 4) (.tmp 20) rfl rfl T #[i64 14,.string ⟨#[]⟩,.slice none 0 0,.slice none 0 0,.slice none 0 0] (by rfl) (by rfl) 42 _ HB.out (by kernel_rfl) rfl (Ay (by simp[J_])) ?_)
 go_wp2_with fail
 exact zy (v:=BN 14) (by simp[results,E_,go_sem,r0,r1,r2,r3,r4,BN]) rfl ⟨rfl,HF.out⟩
theorem xF (line:List UInt8) (f:Nat) (hf:1<=f/\f<15) (h:AB w X Y B Ah Ac ph N es hx) (Dl:ph<=3)
  (hR:∀ W,I_ A_ 34 #[str line] W λ e W'=>e=.returned (.tuple #[Dm ⟨[],none,0,0,0,none,0,0,0,none,0,0,none,0,0⟩,i64 f])/\Af W W') :
  I_ A_ 10 #[pt X,str line] w λ e w'=>e=.returned (BN f)/\AB w' X Y B Ah Ac ph N es hx/\Kept (λ j=>j=X) w w':=by
 obtain⟨T,hT⟩:=zn (w.heap.size)
 have hXT:X<T/\Y<T:=by rw[<- hT];exact h.lt
 obtain⟨left,done,L9,OK⟩:=h.did (.cells #[i64 0,.string ⟨#[]⟩,.slice none 0 0,.slice none 0 0,.slice none 0 0] 42)
 obtain⟨w0,Ll,g0,b0⟩:=zb w #[i64 0,.string ⟨#[]⟩,.slice none 0 0,.slice none 0 0,.slice none 0 0] 42 hT
 rw[Ll]at L9 OK
 have x2:=Ao.cell L9 2
 have f2:=Ao.frozen L9 2
 simp at x2
 obtain⟨w1,AT⟩:=zn (w0.setCell ⟨X,2,none⟩ (i64 (wrap64 (done+1))))
 rw[AT]at OK
 have k1:Kept (λ j=>j=X) w w1:=by rw[<- AT];exact(Af.kept (F:=λ j=>j=X) g0).setCell (p:=⟨X,2,none⟩) (.inl rfl) _
 have b1:Ao w1 T 42 #[i64 0,.string ⟨#[]⟩,.slice none 0 0,.slice none 0 0,.slice none 0 0]:=by rw[<- AT];exact b0.far (p:=⟨X,2,none⟩) (by show T≠X;omega) _
 have HP:=zh (OK.elim λ l h=>h.elim λ d h=>h.2.1.elim λ Ak h'=>h'.elim λ ck h'=>h'.elim λ ev h'=>h'.elim λ hv h'=>h'.elim λ c0 h'=>h'.elim λ c1 h'=>h'.elim λ c2 h'=>Ex (ph:Int) h.1 h'.blk)
 have H0:=Em OK k1 b1 hXT
 have HE:=zh (λ W=>F2 f hf W)
 have HT:=zh hT
 have HR:=zh hR
 have p4:((ph:Int)==4)=false:=by simp;omega
 have z4:((f:Int) != 0)=true:=by simp;omega
 clear OK b0 g0 k1 b1 L9 hR hf Dl
 go_enter G_,F_
 go_upto_region 4 with fail
 have e0:w.alloc (.cells #[.int .i64 0,.string ⟨#[]⟩,.slice none 0 0,.slice none 0 0,.slice none 0 0] 42)=w0:=Ll
 have e1:w0.setCell ⟨X,2,none⟩ (.int .i64 (wrap64 (done+1)))=w1:=AT
 try rw [e0]
 try rw [e1]
 try rw [hT]
 clear e0 e1 Ll AT hT x2 f2
 go_wp2_with fail
 refine HP.out.mono ?_
 rintro e w9 ⟨rfl,rfl⟩
 clear HP
 go_wp2_with fail
 refine(HR.out _).mono ?_
 rintro e w2 ⟨rfl,g2⟩
 dsimp only [Dm]
 go_wp2_with fail
 refine(HE.out _).mono ?_
 rintro e w3 ⟨rfl,g3⟩
 have g23:Af _ w3:=(g2.alloc (.cells #[.string ⟨#[]⟩,.slice none 0 0,u64 0,.slice none 0 0,i64 0,.slice none 0 0,.slice none 0 0] 92)).trans g3
 have HB:=zh (H0.out.2.2.1.grew g23)
 have t6:=HB.out.setRow #[i64 f,.string ⟨#[]⟩,.slice none 0 0,.slice none 0 0,.slice none 0 0]
 obtain⟨r0,r1,r2,r3,r4⟩:=Lo t6
 have HF:Hid (AB (w3.setRow T #[i64 f,.string ⟨#[]⟩,.slice none 0 0,.slice none 0 0,.slice none 0 0]) X Y B Ah Ac ph N es hx/\Kept (λ j=>j=X) w (w3.setRow T #[i64 f,.string ⟨#[]⟩,.slice none 0 0,.slice none 0 0,.slice none 0 0])) :=
  ⟨(H0.out.1.grew g23).far ((zr (λ j=>j=T) _).setRow (.inl rfl) _) (Bl HB.out (by simp)),(H0.out.2.1.grew g23).setRow (.inr (by rw[HT.out];exact zl _)) _⟩
 clear t6 g3 g2 g23 HE H0 HR
 unfold BN
 go_wp2_with (refine wpList_store_rowTo rfl 42 (.tmp 4) (.tmp 29) rfl rfl T #[i64 f,.string ⟨#[]⟩,.slice none 0 0,.slice none 0 0,.slice none 0 0] (by rfl) (by rfl) 42 _ HB.out (by kernel_rfl) rfl (Ay (by simp[J_])) ?_)
 go_wp2_with fail
 exact zy (v:=BN f) (by simp[results,E_,go_sem,r0,r1,r2,r3,r4,BN]) rfl ⟨rfl,HF.out⟩
theorem GO {fq:Nat} (hcf:∀ (args:Array Value) (W:H_),(callFunc fq args).run A_ W=.ok (.enter fq args) W) (line nm:List UInt8) (C:H_->Cm->Prop) (R:H_->Value->Prop) (h:AB w X Y B Ah Ac ph N es hx) (Dl:ph<=3)
  (hP:∀ W,I_ A_ 34 #[str line] W λ e W'=>∃ c:Cm,e=.returned (.tuple #[Dm c,i64 0])/\c.nm=nm/\C W' c/\Af W W')
  (hC:∀ W W' c,C W c->Af W W'->C W' c)
  (hW:∀ W,I_ A_ 35 #[str nm] W λ e W'=>e=.returned (.func (.func fq) #[] #[])/\W=W')
  (hK:∀ W c,C W c->c.nm=nm->AB W X Y B Ah Ac ph N es hx->w.heap.size<=W.heap.size->I_ A_ fq #[pt X,Dm c] W λ e W'=>∃ f Mg A n c1 A2 n2 c2,e=.returned (CB f Mg A n c1 A2 n2 c2)/\R W' (CB f Mg A n c1 A2 n2 c2)/\Kept (λ j=>j=Y) W W')
  (hR:∀ W W' v T cs,R W v->Kept (λ j=>j=T) W W'->Ao W T 42 cs->R W' v) :
  I_ A_ 10 #[pt X,str line] w λ e w'=>∃ f Mg A n c1 A2 n2 c2,e=.returned (CB f Mg A n c1 A2 n2 c2)/\R w' (CB f Mg A n c1 A2 n2 c2)/\Kept (λ j=>j=X\/j=Y) w w':=by
 obtain⟨T,hT⟩:=zn (w.heap.size)
 have hXT:X<T/\Y<T:=by rw[<- hT];exact h.lt
 obtain⟨left,done,L9,OK⟩:=h.did (.cells #[i64 0,.string ⟨#[]⟩,.slice none 0 0,.slice none 0 0,.slice none 0 0] 42)
 obtain⟨w0,Ll,g0,b0⟩:=zb w #[i64 0,.string ⟨#[]⟩,.slice none 0 0,.slice none 0 0,.slice none 0 0] 42 hT
 rw[Ll]at L9 OK
 have x2:=Ao.cell L9 2
 have f2:=Ao.frozen L9 2
 simp at x2
 obtain⟨w1,AT⟩:=zn (w0.setCell ⟨X,2,none⟩ (i64 (wrap64 (done+1))))
 rw[AT]at OK
 have k1:Kept (λ j=>j=X) w w1:=by rw[<- AT];exact(Af.kept (F:=λ j=>j=X) g0).setCell (p:=⟨X,2,none⟩) (.inl rfl) _
 have b1:Ao w1 T 42 #[i64 0,.string ⟨#[]⟩,.slice none 0 0,.slice none 0 0,.slice none 0 0]:=by rw[<- AT];exact b0.far (p:=⟨X,2,none⟩) (by show T≠X;omega) _
 have HP:=zh (OK.elim λ l h=>h.elim λ d h=>h.2.1.elim λ Ak h'=>h'.elim λ ck h'=>h'.elim λ ev h'=>h'.elim λ hv h'=>h'.elim λ c0 h'=>h'.elim λ c1 h'=>h'.elim λ c2 h'=>Ex (ph:Int) h.1 h'.blk)
 have H0:=Em OK k1 b1 hXT
 have HPa:=zh hP
 have HW:=zh hW
 have HRR:=zh hR
 have HCC:=zh hC
 have HKK:=zh hK
 have HT:=zh hT
 have p4:((ph:Int)==4)=false:=by simp;omega
 clear OK b0 g0 k1 b1 L9 hR Dl hP hW hC hK
 go_enter G_,F_
 go_upto_region 4 with fail
 have e0:w.alloc (.cells #[.int .i64 0,.string ⟨#[]⟩,.slice none 0 0,.slice none 0 0,.slice none 0 0] 42)=w0:=Ll
 have e1:w0.setCell ⟨X,2,none⟩ (.int .i64 (wrap64 (done+1)))=w1:=AT
 try rw [e0]
 try rw [e1]
 try rw [hT]
 clear e0 e1 Ll AT hT x2 f2
 go_wp2_with fail
 refine HP.out.mono ?_
 rintro e w9 ⟨rfl,rfl⟩
 clear HP
 go_wp2_with fail
 refine(HPa.out _).mono ?_
 rintro e w2 ⟨c,rfl,iZ,hc,g2⟩
 dsimp only [Dm]
 have HN:=zh iZ
 obtain⟨w3,Db,g3,b3⟩:=zb w2 #[str c.nm,.slice c.ai c.ni c.ci,u64 c.wv,.slice c.aq c.nq c.cq,i64 c.gn,.slice c.ag c.ng c.cg,.slice c.ar c.nr c.cr] 92 rfl
 have wL:=zh (g2.trans g3)
 have HT3:=zh (H0.out.2.2.1.grew wL.out)
 have Da:w.heap.size<=w3.heap.size:=Nat.le_trans H0.out.2.1.size wL.out.size
 have hYc:¬ w2.heap.size=Y:=by
  have q1:=H0.out.2.2.2;have q2:=g2.size;have q3:=H0.out.2.2.1.lt;omega
 have HC:Hid (∀ W',Kept (λ j=>j=Y) w3 W'->W'.cell? ⟨w2.heap.size,0,none⟩=some (str c.nm)/\W'.cell? ⟨w2.heap.size,1,none⟩=some (.slice c.ai c.ni c.ci)/\W'.cell? ⟨w2.heap.size,2,none⟩=some (u64 c.wv)/\W'.cell? ⟨w2.heap.size,3,none⟩=some (.slice c.aq c.nq c.cq)/\W'.cell? ⟨w2.heap.size,4,none⟩=some (i64 c.gn)/\W'.cell? ⟨w2.heap.size,5,none⟩=some (.slice c.ag c.ng c.cg)/\W'.cell? ⟨w2.heap.size,6,none⟩=some (.slice c.ar c.nr c.cr)):=λ W' k=>by
  have b:=b3.kept k hYc;obtain⟨p0,p1,p2,p3,p4,p5,p6⟩:=zk7 b;exact⟨p0,p1,p2,p3,p4,p5,p6⟩
 have HK:=zh (λ W (k:Af w3 W)=>HKK.out W c (HCC.out _ _ _ hc (g3.trans k)) iZ (H0.out.1.grew (wL.out.trans k)) (Nat.le_trans Da k.size))
 have HW:=zh (λ W=>(by rw[iZ];exact HW.out W:I_ A_ 35 #[str c.nm] W _))
 have gz:Kept (λ j=>j=Y) w3 w3.drew:=(zr _ _).drew
 have J0:Af w3 w3.drew:=(zr _ _).drew
 clear iZ hc g2 g3 b3 Da HPa HKK HCC hYc
 go_upto_region 9 with fail
 have e3:w2.alloc (.cells #[.string (bs c.nm),.slice c.ai c.ni c.ci,.int .u64 c.wv,.slice c.aq c.nq c.cq,.int .i64 c.gn,.slice c.ag c.ng c.cg,.slice c.ar c.nr c.cr] 92)=w3:=Db
 try rw [e3]
 clear e3 Db
 refine rG [6] (λ j=>j=Y) ?_
 refine pG 0 30 ?_
 refine tF 1 31 HC.out gz ?_
 refine pG 3 33 ?_
 refine tF 4 34 HC.out gz ?_
 refine sG 2 32 (λ K Al=>?_)
 go_simp
 refine(HW.out _).mono ?_
 rintro e y1 ⟨rfl,rfl⟩
 refine Al (.func (.func fq) #[] #[]) _ (λ _=>(zr _ _)) ?_
 clear Al
 simp only[sA]
 refine sG 5 35 (λ K Al=>?_)
 go_simp
 refine(HK.out _ (by exact J0)).mono ?_
 rintro e y2 ⟨f,Mg,A,n,c1,A2,n2,c2,rfl,hv,k2⟩
 refine Al (.agg #[i64 f,str Mg,.slice A n c1,.slice A2 n2 c2,.slice none 0 0]) _ (λ _=>k2) ?_
 clear Al
 simp only[sA]
 refine Du 6 (λ K Al=>?_)
 have HL:=DU hv k2 (HT3.out.kept (F:=λ j=>j=Y) (gz.trans k2) (by have:=H0.out.2.2.2;omega))
 clear hv k2
 have HB:=zh HL.out.2.2
 refine wp_store_row 42 (.tmp 4) (.tmp 35) rfl T #[i64 f,str Mg,.slice A n c1,.slice A2 n2 c2,.slice none 0 0] rfl rfl 42 _ HB.out (by kernel_rfl) rfl (Ay (by simp[J_])) ?_
 refine Al _ (λ h=>absurd (by simp) h) ?_
 clear Al
 refine dG ?_
 have t6:=HB.out.setRow #[i64 f,str Mg,.slice A n c1,.slice A2 n2 c2,.slice none 0 0]
 obtain⟨r0,r1,r2,r3,r4⟩:=Lo t6
 have HF:Hid (R (y2.setRow T #[i64 f,str Mg,.slice A n c1,.slice A2 n2 c2,.slice none 0 0]) (CB f Mg A n c1 A2 n2 c2)/\Kept (λ j=>j=X\/j=Y) w (y2.setRow T #[i64 f,str Mg,.slice A n c1,.slice A2 n2 c2,.slice none 0 0])):=⟨HRR.out _ _ _ _ _ HL.out.1 ((zr (λ j=>j=T) _).setRow (.inl rfl) _) HB.out,((H0.out.2.1.mono (λ j _ hj=>.inl hj)).trans (((Af.kept wL.out).trans gz).trans HL.out.2.1 |>.mono (λ j _ hj=>.inr hj))).setRow (.inr (by rw[HT.out];exact zl _)) _⟩
 clear t6
 go_wp2_with fail
 exact zy (v:=CB f Mg A n c1 A2 n2 c2) (by simp[results,E_,go_sem,r0,r1,r2,r3,r4]) rfl ⟨_,_,_,_,_,_,_,_,rfl,HF.out⟩
end
section
variable {w:H_} {X Y B:Nat} {Ah Ac:Int} {ph N:Nat} {es:List AJ} {hx:Option Hx}
theorem aN (c:Cm) (h:AB w X Y B Ah Ac ph N es hx) (Dl:1<=ph/\ph<=3) (hr:Au N es=0) (hl:es.length<=800) (hN:N<=12) (hB:B<=w.heap.size) (CC:List Int) (hR:RowI w c.ar CC) (Be:Bu CC) (GU:CC.length=c.nr) (hn:c.nr=0\/c.nr=N) :
  I_ A_ 58 #[pt X,Dm c] w λ e w'=>∃ g x,e=.returned (CB 0 c.nm (some ⟨g,0,none⟩) 1 1 none 0 0)/\Ao w' g 29 #[u64 (N:Int)]/\AB w' X Y B Ah Ac 2 N es (some x)/\x.es=es/\(IG CC hx=x.rk\/IG CC hx=[])/\Kept (λ j=>j=Y) w w':=by
 have h0:=zh h
 obtain⟨nm,ai,ni,ci,wv,aq,nq,cq,gn,ag,ng,cg,ar,nr,cr⟩:=c
 dsimp only at *
 obtain⟨w1,AT,g1,b1⟩:=zb w #[str nm,.slice ai ni ci,u64 wv,.slice aq nq cq,i64 gn,.slice ag ng cg,.slice ar nr cr] 92 rfl
 obtain⟨w2,Cc,g2,b2⟩:=zb w1 #[i64 0,.string ⟨#[]⟩,.slice none 0 0,.slice none 0 0,.slice none 0 0] 42 rfl
 obtain⟨T,hT⟩:=zn (w1.heap.size)
 rw[hT]at b2
 have h2:=h.grew (g1.trans g2)
 have AI:=h.lt
 have HC:Hid (∀ W',Kept (λ j=>j=Y) w2 W'->W'.cell? ⟨X,0,none⟩=some (pt Y)/\W'.cell? ⟨w.heap.size,0,none⟩=some (str nm)/\W'.cell? ⟨w.heap.size,1,none⟩=some (.slice ai ni ci)/\W'.cell? ⟨w.heap.size,2,none⟩=some (u64 wv)/\W'.cell? ⟨w.heap.size,3,none⟩=some (.slice aq nq cq)/\W'.cell? ⟨w.heap.size,4,none⟩=some (i64 gn)/\W'.cell? ⟨w.heap.size,5,none⟩=some (.slice ag ng cg)/\W'.cell? ⟨w.heap.size,6,none⟩=some (.slice ar nr cr)):=λ W' k=>by
  have hn:¬ (w.heap.size=Y):=(by omega);have b:=(b1.grew g2).kept k hn;obtain⟨left,done,q1,_,q3⟩:=h2;have q:=Ao.kept q1 k (show ¬ X=Y from q3.1);have p0:=b.cell 0;have p1:=b.cell 1;have p2:=b.cell 2;have p3:=b.cell 3;have p4:=b.cell 4;have p5:=b.cell 5;have p6:=b.cell 6;have p7:=q.cell 0;simp at p0 p1 p2 p3 p4 p5 p6 p7;exact⟨p7,p0,p1,p2,p3,p4,p5,p6⟩
 have HS:=zh h2
 have HZ:=Em (g1.trans g2) b2 ((by rw[<- hT];exact g1.size:w.heap.size<=T)) AI
 have gz:Kept (λ j=>j=Y) w2 w2.drew:=(zr _ _).drew
 have a8:Hid (∀ W,Af w2 W->I_ A_ 95 #[pt Y,.slice ar nr cr] W λ e w'=>e=.returned (i64 0)/\(∃ x,BK w' Y B Ah Ac 2 N es (some x)/\x.es=es/\(IG CC hx=x.rk\/IG CC hx=[]))/\Kept (λ j=>j=Y) W w'):=λ W k=>by
  have hs:BK W Y B Ah Ac ph N es hx:=h2.elim λ _ h=>h.elim λ _ h=>h.2.1.grew k;have hB':B<=W.heap.size:=Nat.le_trans hB ((g1.trans g2).trans k).size;rcases hn with hn | hn
  ·exact Nx ph N es hx hs Dl hr hl hN hB' CC (RowI.grew hR ((g1.trans g2).trans k)) Be GU hn
  ·exact LM ph N es hx hs Dl hr hl hN hB' CC (RowI.grew hR ((g1.trans g2).trans k)) Be GU hn
 have OL:IntKind.u64.wrap (N:Int)=(N:Int):=wrapN N (by omega)
 have uD:=zh hl
 clear h hr hl hB Dl h2 AI g1 g2 b1 b2 hn hR Be GU hN
 go_enter Tryz.func58,Tryz.ntmps58
 go_upto_region 1 with fail
 have e2:(w1.alloc (.cells #[.int .i64 0,.string ⟨#[]⟩,.slice none 0 0,.slice none 0 0,.slice none 0 0] 42))=w2:=Cc
 try rw [e2]
 try rw [hT]
 have J0:Af w2 w2.drew:=(zr _ _).drew
 clear e2 Cc hT
 refine rG [] (λ j=>j=Y) ?_
 refine pG 0 8 ?_
 refine pG 1 9 ?_
 refine pG 2 10 ?_
 refine tF 3 11 HC.out gz ?_
 refine pG 4 12 ?_
 refine tF 5 13 HC.out gz ?_
 refine sG 6 14 (λ K Al=>?_)
 go_simp
 refine(a8.out _ J0).mono ?_
 rintro e y1 ⟨rfl,⟨x,hs,M0,Lm⟩,k1⟩
 refine Al (i64 0) _ (λ _=>k1) ?_
 clear Al
 simp only[sA]
 refine pG 7 5 ?_
 refine dG ?_
 skip
 have kk:=gz.trans k1
 have wO:=zh (aM 2 N es (some x) hs (by omega) uD.out)
 have H1:=Em hs kk M0 Lm
 obtain⟨q7,q0,q1,q2,q3,q4,q5,q6⟩:=HC.out y1 kk
 clear hs k1 kk M0 Lm a8 gz J0
 go_wp2_with fail
 refine wO.out.mono ?_
 rintro e y2 ⟨v,rfl,ho,k2⟩
 obtain⟨A2,c2,rfl⟩:=At ho
 obtain⟨y3,CR⟩:=zn (L_ y2 (.cells #[i64 N,.slice A2 es.length c2] 24))
 have k3:Af y2 y3:=by rw[<- CR];exact DL _ _ _
 have b3:Ao y3 (M_ y2).size 24 #[i64 N,.slice A2 es.length c2]:=by rw[<- CR];exact zv _ _ _
 obtain⟨y4,FB⟩:=zn (L_ y3 (.cells #[u64 (N:Int)] 29))
 have k4:Af y3 y4:=by rw[<- FB];exact DL _ _ _
 have bv:Ao y4 (M_ y3).size 29 #[u64 (N:Int)]:=by rw[<- FB];exact zv _ _ _
 obtain⟨g,hg⟩:=zn ((M_ y3).size)
 rw[hg]at bv
 have z0:=b3.cell 0
 simp at z0
 have kk2:Kept (λ j=>j=Y) w2 y4:=H1.out.2.1.grew ((k2.trans k3).trans k4)
 obtain⟨q7,q0,q1,q2,q3,q4,q5,q6⟩:=HC.out y3 (H1.out.2.1.grew (k2.trans k3))
 have HT:=zh (Gc ⟨nm,ai,ni,ci,wv,aq,nq,cq,gn,ag,ng,cg,ar,nr,cr⟩ (some ⟨g,0,none⟩) 1 1 y4)
 have H4:=DU kk2 ((H1.out.1.grew ((k2.trans k3).trans k4):BK y4 Y B Ah Ac 2 N es (some x))) bv
 clear k2 k3 k4 b3 bv kk2 ho wO
 go_wp2_with fail
 have e3:L_ y2 (.cells #[.int .i64 N,.slice A2 es.length c2] 24)=y3:=CR
 have e4:L_ y3 (.cells #[.int .u64 (N:Int)] 29)=y4:=FB
 try rw [e3]
 try rw [e4]
 try rw [hg]
 clear e3 e4 CR FB hg
 refine HT.out.mono ?_
 rintro e y5 ⟨rfl,k5⟩
 have o9:Kept (λ j=>j=Y) w2 y5:=H4.out.1.grew k5
 have HL:Hid (Kept (λ j=>j=Y) w2 y5/\(BK y5 Y B Ah Ac 2 N es (some x)/\Ao y5 g 29 #[u64 (N:Int)])/\Ao y5 T 42 #[i64 0,.string ⟨#[]⟩,.slice none 0 0,.slice none 0 0,.slice none 0 0]):=⟨o9,⟨H4.out.2.1.grew k5,H4.out.2.2.grew k5⟩,HZ.out.2.1.kept o9 (show ¬ T=Y by have:=HZ.out.2.2;omega)⟩
 have HB:=zh HL.out.2.2
 have t6:=HB.out.setRow #[i64 0,str nm,.slice (some ⟨g,0,none⟩) 1 1,.slice none 0 0,.slice none 0 0]
 obtain⟨r0,r1,r2,r3,r4⟩:=Lo t6
 have kT:Kept (λ j=>j=T) y5 (K_ y5 T #[i64 0,str nm,.slice (some ⟨g,0,none⟩) 1 1,.slice none 0 0,.slice none 0 0]):=(zr (λ j=>j=T) _).setRow (.inl rfl) _
 have ap:=Bl HB.out (by simp)
 have kF:Kept (λ j=>j=Y) w (K_ y5 T #[i64 0,str nm,.slice (some ⟨g,0,none⟩) 1 1,.slice none 0 0,.slice none 0 0]):=((Af.kept HZ.out.1).trans HL.out.1).setRow (.inr HZ.out.2.2.1) _
 have HF:Hid (Ao (K_ y5 T #[i64 0,str nm,.slice (some ⟨g,0,none⟩) 1 1,.slice none 0 0,.slice none 0 0]) g 29 #[u64 (N:Int)]/\AB (K_ y5 T #[i64 0,str nm,.slice (some ⟨g,0,none⟩) 1 1,.slice none 0 0,.slice none 0 0]) X Y B Ah Ac 2 N es (some x)/\x.es=es/\(IG CC hx=x.rk\/IG CC hx=[])/\Kept (λ j=>j=Y) w (K_ y5 T #[i64 0,str nm,.slice (some ⟨g,0,none⟩) 1 1,.slice none 0 0,.slice none 0 0])):=⟨HL.out.2.1.2.kept kT (Ao.ne HL.out.2.1.2 HB.out (by simp)),AB.turn h0.out kF (HL.out.2.1.1.far kT ap),H1.out.2.2.1,H1.out.2.2.2,kF⟩
 clear t6 kT ap kF o9 k5 HT H4 H1 z0
 go_wp2_with (refine wpList_store_rowTo rfl 42 (.tmp 4) (.tmp 29) rfl rfl T #[i64 0,str nm,.slice (some ⟨g,0,none⟩) 1 1,.slice none 0 0,.slice none 0 0] (by rfl) (by rfl) 42 _ HB.out (by kernel_rfl) rfl (Ay (by simp[J_])) ?_)
 go_wp2_with fail
 exact zy (v:=.agg #[i64 0,str nm,.slice (some ⟨g,0,none⟩) 1 1,.slice none 0 0,.slice none 0 0]) (by simp[results,Tryz.results58,go_sem,r0,r1,r2,r3,r4]) rfl ⟨g,x,rfl,HF.out⟩
theorem ey (c:Cm) (h:AB w X Y B Ah Ac ph N es hx) (Dl:ph<=3) :
  I_ A_ 60 #[pt X,Dm c] w λ e w'=>e=.returned (CB 0 c.nm none 0 0 none 0 0)/\AB w' X Y B Ah Ac 4 N es hx/\Kept (λ j=>j=Y) w w':=by
 have h0:=zh h
 obtain⟨nm,ai,ni,ci,wv,aq,nq,cq,gn,ag,ng,cg,ar,nr,cr⟩:=c
 dsimp only at *
 obtain⟨w1,AT,g1,b1⟩:=zb w #[str nm,.slice ai ni ci,u64 wv,.slice aq nq cq,i64 gn,.slice ag ng cg,.slice ar nr cr] 92 rfl
 obtain⟨w2,Cc,g2,b2⟩:=zb w1 #[i64 0,.string ⟨#[]⟩,.slice none 0 0,.slice none 0 0,.slice none 0 0] 42 rfl
 obtain⟨T,hT⟩:=zn (w1.heap.size)
 rw[hT]at b2
 have h2:=h.grew (g1.trans g2)
 have AI:=h.lt
 have HC:Hid (∀ W',Kept (λ j=>j=Y) w2 W'->W'.cell? ⟨X,0,none⟩=some (pt Y)/\W'.cell? ⟨w.heap.size,0,none⟩=some (str nm)/\W'.cell? ⟨w.heap.size,1,none⟩=some (.slice ai ni ci)/\W'.cell? ⟨w.heap.size,2,none⟩=some (u64 wv)/\W'.cell? ⟨w.heap.size,3,none⟩=some (.slice aq nq cq)/\W'.cell? ⟨w.heap.size,4,none⟩=some (i64 gn)/\W'.cell? ⟨w.heap.size,5,none⟩=some (.slice ag ng cg)/\W'.cell? ⟨w.heap.size,6,none⟩=some (.slice ar nr cr)):=λ W' k=>by
  have hn:¬ (w.heap.size=Y):=(by omega);have b:=(b1.grew g2).kept k hn;obtain⟨left,done,q1,_,q3⟩:=h2;have q:=Ao.kept q1 k (show ¬ X=Y from q3.1);have p0:=b.cell 0;have p1:=b.cell 1;have p2:=b.cell 2;have p3:=b.cell 3;have p4:=b.cell 4;have p5:=b.cell 5;have p6:=b.cell 6;have p7:=q.cell 0;simp at p0 p1 p2 p3 p4 p5 p6 p7;exact⟨p7,p0,p1,p2,p3,p4,p5,p6⟩
 have HS:=zh h2
 have HZ:=Em (g1.trans g2) b2 ((by rw[<- hT];exact g1.size:w.heap.size<=T)) AI
 have gz:Kept (λ j=>j=Y) w2 w2.drew:=(zr _ _).drew
 have a8:Hid (∀ W,Af w2 W->I_ A_ 98 #[pt Y] W λ e w'=>e=.returned (i64 0)/\BK w' Y B Ah Ac 4 N es hx/\Kept (λ j=>j=Y) W w'):=λ W k=>by
  obtain⟨left,done,h1,h3,h4⟩:=h2;obtain⟨Ak,ck,ev,hv,c0,c1,c2,hs⟩:=h3.grew k;refine(et ph Dl hs.blk).mono ?_;rintro e w' ⟨he,hb,hk⟩;have hk':Kept (λ j=>j=Y) W w':=hk;have AI:=hs.lt;refine⟨he,⟨Ak,ck,ev,hv,c0,c1,c2,⟨hs.lt,hs.opt,hb,Kept.own hk' hs.edg λ j hj e=>?_,hs.hier.kept hk' λ j hj e=>?_⟩⟩,hk'⟩
  ·have h1:=(Ap hs.edg hj).1;have e:j=Y:=e;omega
  ·have e:j=Y:=e;omega
 clear h Dl h2 AI g1 g2 b1 b2
 go_enter Tryz.func60,Tryz.ntmps60
 go_upto_region 1 with fail
 have e2:(w1.alloc (.cells #[.int .i64 0,.string ⟨#[]⟩,.slice none 0 0,.slice none 0 0,.slice none 0 0] 42))=w2:=Cc
 try rw [e2]
 try rw [hT]
 have J0:Af w2 w2.drew:=(zr _ _).drew
 clear e2 Cc hT
 refine rG [7] (λ j=>j=Y) ?_
 refine tF 0 5 HC.out gz ?_
 refine pG 1 6 ?_
 refine pG 2 7 ?_
 refine pG 3 8 ?_
 refine tF 4 9 HC.out gz ?_
 refine sG 5 10 (λ K Al=>?_)
 go_simp
 refine(a8.out _ J0).mono ?_
 rintro e y1 ⟨rfl,hs,k1⟩
 refine Al (i64 0) _ (λ _=>k1) ?_
 clear Al
 simp only[sA]
 refine sG 6 11 (λ K Al=>?_)
 go_simp
 refine(Gc ⟨nm,ai,ni,ci,wv,aq,nq,cq,gn,ag,ng,cg,ar,nr,cr⟩ none 0 0 _).mono ?_
 rintro e y3 ⟨rfl,FE⟩
 have k3:=Af.kept (F:=λ j=>j=Y) FE
 have kk:Kept (λ j=>j=Y) w2 y3:=(gz.trans k1).trans k3
 have HL:Hid (Kept (λ j=>j=Y) w2 y3/\BK y3 Y B Ah Ac 4 N es hx/\Ao y3 T 42 #[i64 0,.string ⟨#[]⟩,.slice none 0 0,.slice none 0 0,.slice none 0 0]):=⟨kk,hs.grew FE,HZ.out.2.1.kept kk (show ¬ T=Y by have:=HZ.out.2.2;omega)⟩
 clear hs kk k1 FE
 refine Al (.agg #[i64 0,str nm,.slice none 0 0,.slice none 0 0,.slice none 0 0]) _ (λ _=>k3) ?_
 clear Al
 simp only[sA]
 refine Du 7 (λ K Al=>?_)
 have HB:=zh HL.out.2.2
 refine wp_store_row 42 (.tmp 4) (.tmp 11) rfl T #[i64 0,str nm,.slice none 0 0,.slice none 0 0,.slice none 0 0] rfl rfl 42 _ HB.out (by kernel_rfl) rfl (Ay (by simp[J_])) ?_
 refine Al _ (λ h=>absurd (by simp) h) ?_
 clear Al
 refine dG ?_
 have t6:=HB.out.setRow #[i64 0,str nm,.slice none 0 0,.slice none 0 0,.slice none 0 0]
 obtain⟨r0,r1,r2,r3,r4⟩:=Lo t6
 have kT:Kept (λ j=>j=T) y3 (K_ y3 T #[i64 0,str nm,.slice none 0 0,.slice none 0 0,.slice none 0 0]):=(zr (λ j=>j=T) _).setRow (.inl rfl) _
 have ap:=Bl HB.out (by simp)
 have kF:Kept (λ j=>j=Y) w (K_ y3 T #[i64 0,str nm,.slice none 0 0,.slice none 0 0,.slice none 0 0]):=((Af.kept HZ.out.1).trans HL.out.1).setRow (.inr HZ.out.2.2.1) _
 have HF:Hid (AB (K_ y3 T #[i64 0,str nm,.slice none 0 0,.slice none 0 0,.slice none 0 0]) X Y B Ah Ac 4 N es hx/\Kept (λ j=>j=Y) w (K_ y3 T #[i64 0,str nm,.slice none 0 0,.slice none 0 0,.slice none 0 0])):=⟨AB.turn h0.out kF (HL.out.2.1.far kT ap),kF⟩
 clear kT ap kF
 clear t6
 go_wp2_with fail
 exact zy (v:=.agg #[i64 0,str nm,.slice none 0 0,.slice none 0 0,.slice none 0 0]) (by simp[results,Tryz.results60,go_sem,r0,r1,r2,r3,r4,BN]) rfl ⟨rfl,HF.out⟩
end
theorem Ny {w:H_} {X Y B:Nat} {Ah Ac:Int} {ph N:Nat} {es:List AJ} {hx:Option Hx} (c:Cm) (h:AB w X Y B Ah Ac ph N es hx) (Dl:ph<=4) (hn:ph≠2) (f:Nat) (hf:(Gg ph 2:Int)=f) (OC:1<=f/\f<15) :
  I_ A_ 63 #[pt X,Dm c] w λ r w'=>r=.returned (BN f)/\AB w' X Y B Ah Ac ph N es hx/\Af w w':=by
 have h0:=zh h
 obtain⟨nm,ai,ni,ci,wv,aq,nq,cq,gn,ag,ng,cg,ar,nr,cr⟩:=c
 obtain⟨w1,AT,g1⟩:=zg w (.cells #[str nm,.slice ai ni ci,u64 wv,.slice aq nq cq,i64 gn,.slice ag ng cg,.slice ar nr cr] 92)
 obtain⟨w2,Cc,g2,b2⟩:=zb w1 #[i64 0,.string ⟨#[]⟩,.slice none 0 0,.slice none 0 0,.slice none 0 0] 42 rfl
 obtain⟨T,hT⟩:=zn (w1.heap.size)
 rw[hT]at b2
 have h2:=h.grew (g1.trans g2)
 have hwT:w.heap.size<=T:=by rw[<- hT];exact g1.size
 have x0:w2.cell? ⟨X,0,none⟩=some (pt Y):=by
  obtain⟨left,done,q1,_,q3⟩:=h2;have p:=Ao.cell q1 0;simp at p;exact p
 have HH:Hid (I_ A_ 31 #[pt Y] w2 λ e w'=>e=.returned (.tuple #[.pointer none,i64 f])/\Af w2 w'):=by
  obtain⟨left,done,q1,q2,q3⟩:=h2;obtain⟨Ak,ck,ev,hv,c0,c1,c2,q⟩:=q2;have:=Mq ph Dl hn q.blk;rw[hf]at this;exact this
 have HE:=zh (λ W=>F2 f OC W)
 have HS:=Em h2 b2 (g1.trans g2) hwT
 have nz:((f:Int) != 0)=true:=by simp;omega
 clear h h2 b2 g1 g2 hf hwT
 go_enter Tryz.func63,Tryz.ntmps63
 go_wp2_with fail
 refine HH.out.mono ?_
 rintro e w3 ⟨rfl,g3⟩
 clear HH x0 AT Cc hT
 go_wp2_with fail
 refine(HE.out _).mono ?_
 rintro e w4 ⟨rfl,g4⟩
 have iP:=zh (g3.trans g4)
 have HB:=zh (HS.out.2.1.grew iP.out)
 have t6:=HB.out.setRow #[i64 f,.string ⟨#[]⟩,.slice none 0 0,.slice none 0 0,.slice none 0 0]
 obtain⟨r0,r1,r2,r3,r4⟩:=Lo t6
 have HF:Hid (AB (w4.setRow T #[i64 f,.string ⟨#[]⟩,.slice none 0 0,.slice none 0 0,.slice none 0 0]) X Y B Ah Ac ph N es hx/\Af w (w4.setRow T #[i64 f,.string ⟨#[]⟩,.slice none 0 0,.slice none 0 0,.slice none 0 0])) :=
  ⟨(HS.out.1.grew iP.out).far ((zr (λ j=>j=T) _).setRow (.inl rfl) _) (Bl HB.out (by simp)),(HS.out.2.2.1.trans iP.out).setRow (.inr HS.out.2.2.2) _⟩
 clear t6 g4 HE
 unfold BN
 go_wp2_with (refine wpList_store_rowTo rfl 42 (.tmp 4) (.tmp 19) rfl rfl T #[i64 f,.string ⟨#[]⟩,.slice none 0 0,.slice none 0 0,.slice none 0 0] (by rfl) (by rfl) 42 _ HB.out (by kernel_rfl) rfl (Ay (by simp[J_])) ?_)
 go_wp2_with fail
 exact zy (v:=BN f) (by simp[results,Tryz.results63,go_sem,r0,r1,r2,r3,r4,BN]) rfl ⟨rfl,HF.out⟩
abbrev zCm:Cm:=⟨[],none,0,0,0,none,0,0,0,none,0,0,none,0,0⟩
def MC (c:Cm) (f:Nat) (e:Ending):Prop:=(f=0/\e=.returned (.tuple #[Dm c,i64 0]))\/(f≠0/\e=.returned (.tuple #[Dm zCm,i64 f]))
def uO (i:Nat) (tl:List (List UInt8)) (D:H_->Cm->Nat->Prop):Prop:=∀ (W:H_) (X:Nat) (A:Option Addr) (cap:Nat),ET W X (Am i) (.slice none 0 0) [] 0 (.slice none 0 0) [] 0 (.slice none 0 0) (.slice none 0 0) 0->B8 W A tl->tl.length<=cap->(∀ a,A=some a->a.block<X) ->
  I_ A_ 56 #[pt X,.slice A tl.length cap] W λ e W'=>e=.returned (.tuple #[])/\(∃ (c:Cm) (f:Nat),Ao W' X 124 #[str c.nm,.slice c.ai c.ni c.ci,u64 c.wv,.slice c.aq c.nq c.cq,i64 c.gn,.slice c.ag c.ng c.cg,.slice c.ar c.nr c.cr,i64 f]/\D W' c f/\c.nm=Am i)/\Kept (λ j=>X<=j) W W'
theorem B8.tail {w:H_} {b off:Nat} {x:List UInt8} {tl:List (List UInt8)} (h:B8 w (some ⟨b,off,none⟩) (x::tl)):B8 w (some ⟨b,off+1,none⟩) tl:=λ i l hl=>by
 obtain⟨b',jV,hA,hb,hc⟩:=h (i+1) l (by simpa using hl);cases hA;exact⟨_,_,rfl,hb,by rw[show off+1+i=off+(i+1) by omega];exact hc⟩
theorem O8 {w:H_} {B:Nat} {A:Option Addr} {n c:Nat} {zs:List (List UInt8)} (h:Bv w B (.slice A n c) zs):zs.length<=c:=by
 rcases h.2 with ⟨hv,h0⟩ | ⟨g,cap,cur,hv,hb,hg,h3,_⟩
 ·omega
 ·cases hv;omega
theorem Et {i:Nat} (hi:i<13):CX (Am i)/\(∀ c∈Am i,c.toNat<97)/\Dr[i]? = some (Am i)/\(∀ j,j<i->Dr[j]? ≠ some (Am i))/\(Am i).length<=5:=by
 have h:∀ a:Fin 13,((Am a≠[]/\∀ c∈Am a,sgn c=true)/\(∀ c∈Am a,c.toNat<97)/\Dr[a.1]? = some (Am a)/\(∀ b:Fin 13,b.1<a.1->Dr[b.1]? ≠ some (Am a))/\(Am a).length<=5):=(by decide +kernel);obtain⟨h1,h2,h3,h4,h5⟩:=h ⟨i,hi⟩;exact⟨h1,h2,h3,λ j hj=>h4 ⟨j,by omega⟩ hj,h5⟩
theorem Gb (i:Nat) (hi:i<13) (tl:List (List UInt8)) (D:H_->Cm->Nat->Prop) (Be:∀ x∈tl,CX x) (hlen:(Az (Am i::tl)).length<=65536) (hn:tl.length<16384)
  (hR:uO i tl D) (hD:∀ W W' c f T cs,D W c f->Kept (λ j=>j=T) W W'->Ao W T 92 cs->D W' c f) (w:H_) :
  I_ A_ 34 #[str (Az (Am i::tl))] w λ e w'=>∃ (c:Cm) (f:Nat),MC c f e/\c.nm=Am i/\D w' c f/\Af w w':=by
 obtain⟨n1,n2,n3,n4,n5⟩:=Et hi
 obtain⟨R,hRR⟩:=zn (w.heap.size)
 obtain⟨w1,AT,g1,b1⟩:=zb w #[.string ⟨#[]⟩,.slice none 0 0,u64 0,.slice none 0 0,i64 0,.slice none 0 0,.slice none 0 0] 92 hRR
 obtain⟨nm,D1⟩:=zn (Am i)
 rw[D1]at n1 n2 n3 n4 n5 hlen ⊢
 have HW:=zh (lg (nm::tl) (λ x hx=>by rcases N_.1 hx with rfl | h;exact n1;exact Be x h) hlen (by simp;omega) w1)
 have HU:=zh (λ W=>lf nm n2 (by omega) W)
 have HN:=zh jR
 have HI0:=BO n3 n4
 have HRR:=zh hR
 have wK:=zh hD
 have H0:=DU g1 b1 hRR
 have HNM:=zh D1
 obtain⟨ln,fw⟩:=zn (Az (nm::tl))
 rw[fw]at HW ⊢
 clear n1 n2 n3 n4 n5 Be hlen hn hR hD g1 b1 D1 fw
 go_enter Tryz.func34,Tryz.ntmps34
 go_wp2_with fail
 have e1:w.alloc (.cells #[.string ⟨#[]⟩,.slice none 0 0,.int .u64 0,.slice none 0 0,.int .i64 0,.slice none 0 0,.slice none 0 0] 92)=w1:=AT
 try rw [e1]
 try rw [hRR]
 clear e1 AT hRR
 refine HW.out.mono ?_
 rintro e w2 ⟨v,rfl,ho,g2⟩
 obtain⟨Aw,cw,rfl,Kd⟩:=ho.row
 have Bi:=O8 ho
 obtain⟨b,off,hA,hb,hc⟩:=Kd 0 nm rfl
 subst hA
 simp only[Nat.add_zero]at hc
 obtain⟨L,hL⟩:=zn (tl.length)
 have L6:(nm::tl).length=L+1:=by simp[hL]
 rw[L6]at Bi ⊢
 have l0:(0:Int)<((L+1:Nat):Int):=by omega
 have l1:((L+1:Nat):Int)<=(cw:Int):=by omega
 have l2:¬ ((L+1:Nat):Int)=0:=by omega
 have HT:=Fo Kd hb g2 hL Bi
 clear HW ho Kd hb g2 hL L6 Bi
 go_wp2_with fail
 refine(HU.out _).mono ?_
 rintro e w3 ⟨rfl,g3⟩
 have H3:=zh g3
 clear g3 HU
 obtain⟨w4,Dn,g4,b4⟩:=zb w3 #[str nm,.slice none 0 0,u64 0,.slice none 0 0,i64 0,.slice none 0 0,.slice none 0 0,i64 0] 124 rfl
 obtain⟨X,hX⟩:=zn (w3.heap.size)
 rw[hX]at b4
 have HX0:Hid (∀ W',Af w4 W'->W'.cell? ⟨X,0,none⟩=some (str nm)):=λ W' k=>by
  have:=(b4.grew k).cell 0;simpa using this
 have HZ:=DU g4 b4 hX
 clear g4 b4
 go_upto_region 7 with fail
 have e4:w3.alloc (.cells #[.string (bs nm),.slice none 0 0,.int .u64 0,.slice none 0 0,.int .i64 0,.slice none 0 0,.slice none 0 0,.int .i64 0] 124)=w4:=Dn
 try rw [e4]
 try rw [hX]
 have gz:Af w4 w4.drew:=(zr _ _).drew
 clear e4 Dn hX
 refine rG [] (λ _=>False) ?_
 refine pG 1 30 ?_
 refine pG 2 31 ?_
 refine pG 3 32 ?_
 refine pG 4 33 ?_
 refine tF 5 34 HX0.out gz ?_
 refine sG 0 29 (λ K Al=>?_)
 go_simp
 refine(HN.out _).mono ?_
 rintro e y1 ⟨v2,rfl,Hs,k1⟩
 obtain⟨An,cn,rfl,hrn⟩:=Hs.row
 have HI:=zh (MK An cn i Dr nm y1 hrn (by decide) HI0.out.1 HI0.out.2)
 rw[show Dr.length=13 from rfl]at HI
 refine Al (.slice An 13 cn) _ (λ _=>k1) ?_
 clear Al
 simp only[sA]
 refine sG 6 35 (λ K Al=>?_)
 go_simp
 refine HI.out.mono ?_
 rintro e y9 ⟨rfl,rfl⟩
 refine Al (.bool true) _ (λ _=>(zr _ _)) ?_
 clear Al
 simp only[sA]
 refine pG 7 36 ?_
 refine dG ?_
 have HG1:=zh (gz.trans k1)
 clear k1 Hs hrn HI HI0 HN
 have kT:Af w1 y1:=((HT.out.2.2.1.trans H3.out).trans HZ.out.1).trans HG1.out
 have hbX:b<X:=by
  have q1:=HT.out.2.1;have q2:=H3.out.size;have q3:=HZ.out.2.2;omega
 have dx:ET y1 X nm (.slice none 0 0) [] 0 (.slice none 0 0) [] 0 (.slice none 0 0) (.slice none 0 0) 0:=⟨HZ.out.2.1.grew HG1.out,⟨rfl,.inl ⟨rfl,rfl⟩⟩,⟨rfl,.inl ⟨rfl,rfl⟩⟩⟩
 have Kd:B8 y1 (some ⟨b,off,none⟩) (nm::tl):=HT.out.1.grew ((H3.out.trans HZ.out.1).trans HG1.out)
 have HQ:Hid (∀ A cap,(A=some ⟨b,off+1,none⟩\/tl=[]/\A=some ⟨b,off,none⟩)->L<=cap->I_ A_ 56 #[pt X,.slice A L cap] y1 λ e W'=>e=.returned (.tuple #[])/\(∃ (c:Cm) (f:Nat),Ao W' X 124 #[str c.nm,.slice c.ai c.ni c.ci,u64 c.wv,.slice c.aq c.nq c.cq,i64 c.gn,.slice c.ag c.ng c.cg,.slice c.ar c.nr c.cr,i64 f]/\D W' c f/\c.nm=nm)/\Kept (λ j=>X<=j) y1 W'):=by
  intro A cap hA Bi;have hh:=HRR.out y1 X A cap (by rw[HNM.out];exact dx) (by rcases hA with rfl | ⟨h,rfl⟩;exact Kd.tail;subst h;exact λ i l hl=>by simp at hl) (by rw[HT.out.2.2.2.1];exact Bi) (by rintro a rfl;rcases hA with h | ⟨_,h⟩<;>cases h<;>exact hbX);rw[HT.out.2.2.2.1,HNM.out]at hh;exact hh
 have KT:=zh kT
 clear dx Kd kT HRR
 have wX:=zh (HQ.out (some ⟨b,off+1,none⟩) (cw-1) (.inl rfl) (by have:=HT.out.2.2.2.2;omega))
 have HQ0:Hid (cw=1->I_ A_ 56 #[pt X,.slice (some ⟨b,off,none⟩) L 0] y1 λ e W'=>e=.returned (.tuple #[])/\(∃ (c:Cm) (f:Nat),Ao W' X 124 #[str c.nm,.slice c.ai c.ni c.ci,u64 c.wv,.slice c.aq c.nq c.cq,i64 c.gn,.slice c.ag c.ng c.cg,.slice c.ar c.nr c.cr,i64 f]/\D W' c f/\c.nm=nm)/\Kept (λ j=>X<=j) y1 W'):=λ h =>
  HQ.out (some ⟨b,off,none⟩) 0 (.inr ⟨List.eq_nil_of_length_eq_zero (by have h1:=HT.out.2.2.2.2;have h2:=HT.out.2.2.2.1;omega),rfl⟩) (by have:=HT.out.2.2.2.2;omega)
 clear HQ
 go_wp2_with fail
 ·refine(HQ0.out (by omega)).mono ?_;rintro e w5 ⟨rfl,⟨c,f,Jt,hd5,iZ⟩,k5⟩;clear wX HQ0;have o9:Af w1 w5:=KT.out.then k5 (λ j hj hXj=>by
   have q1:=(HT.out.2.2.1.trans H3.out).size
   have q3:=HZ.out.2.2
   have hXj:X<=j:=hXj
   omega)
  have vi:=H0.out.2.1.grew o9;have x0:=Jt.cell 0;have x1:=Jt.cell 1;have x2:=Jt.cell 2;have x3:=Jt.cell 3;have x4:=Jt.cell 4;have x5:=Jt.cell 5;have x6:=Jt.cell 6;have x7:=Jt.cell 7;simp at x0 x1 x2 x3 x4 x5 x6 x7;have HE:=DU hd5 iZ (H0.out.1.trans o9);have HB:=zh vi;clear Jt hd5 iZ k5 o9 vi;by_cases hf:f=0
  ·subst hf;have t6:=HB.out.setRow #[str c.nm,.slice c.ai c.ni c.ci,u64 c.wv,.slice c.aq c.nq c.cq,i64 c.gn,.slice c.ag c.ng c.cg,.slice c.ar c.nr c.cr];obtain⟨r0,r1,r2,r3,r4,r5,r6⟩:=zk7 t6;have HF:Hid (c.nm=nm/\D (w5.setRow R #[str c.nm,.slice c.ai c.ni c.ci,u64 c.wv,.slice c.aq c.nq c.cq,i64 c.gn,.slice c.ag c.ng c.cg,.slice c.ar c.nr c.cr]) c 0/\Af w (w5.setRow R #[str c.nm,.slice c.ai c.ni c.ci,u64 c.wv,.slice c.aq c.nq c.cq,i64 c.gn,.slice c.ag c.ng c.cg,.slice c.ar c.nr c.cr])):=⟨HE.out.2.1,wK.out _ _ _ _ _ _ HE.out.1 ((zr (λ j=>j=R) _).setRow (.inl rfl) _) HB.out,HE.out.2.2.setRow (.inr (by rw[H0.out.2.2];exact zl _)) _⟩;clear t6 HE;go_wp2_with (refine wpList_store_rowTo rfl 92 (.tmp 2) (.tmp 55) rfl rfl R #[str c.nm,.slice c.ai c.ni c.ci,u64 c.wv,.slice c.aq c.nq c.cq,i64 c.gn,.slice c.ag c.ng c.cg,.slice c.ar c.nr c.cr] (by rfl) (by rfl) 92 _ HB.out (by kernel_rfl) rfl (Ay (by simp[J_])) ?_);go_wp2_with fail;exact zy (v:=.tuple #[Dm c,i64 0]) (by simp[results,D_,go_sem,r0,r1,r2,r3,r4,r5,r6]) rfl ⟨c,0,.inl ⟨rfl,rfl⟩,HF.out⟩
  ·have hz:((f:Int) != 0)=true:=by simp;omega
   have y0:=HB.out.frozen 0;have t6:=(HB.out.drew).setRow #[.string ⟨#[]⟩,.slice none 0 0,u64 0,.slice none 0 0,i64 0,.slice none 0 0,.slice none 0 0];obtain⟨r0,r1,r2,r3,r4,r5,r6⟩:=zk7 t6;have HF:Hid (c.nm=nm/\D (w5.drew.setRow R #[.string ⟨#[]⟩,.slice none 0 0,u64 0,.slice none 0 0,i64 0,.slice none 0 0,.slice none 0 0]) c f/\Af w (w5.drew.setRow R #[.string ⟨#[]⟩,.slice none 0 0,u64 0,.slice none 0 0,i64 0,.slice none 0 0,.slice none 0 0])):=⟨HE.out.2.1,wK.out _ _ _ _ _ _ HE.out.1 ((zr (λ j=>j=R) _).drew.setRow (.inl rfl) _) HB.out,HE.out.2.2.drew.setRow (.inr (by rw[H0.out.2.2];exact zl _)) _⟩;have HX7:Hid (∀ W',Kept (λ j=>j=R) w5 W'->W'.cell? ⟨X,7,none⟩=some (i64 f)):=λ W' k=>k.cell x7 (by
    have q1:=(HT.out.2.2.1.trans H3.out).size
    have q3:=HZ.out.2.2
    have q4:=H0.out.2.1.lt
    show ¬ X=R
    omega)
   clear t6 HE;go_upto_region 11 with fail;refine rG [] (λ j=>j=R) ?_;refine pG 0 47 ?_;refine pG 1 48 ?_;refine pG 2 49 ?_;refine pG 3 50 ?_;refine tF 4 51 HX7.out (((zr (λ j=>j=R) w5).drew)) ?_;refine Du 5 (λ K Al=>?_);refine wp_store_row 92 (.tmp 2) (.tmp 47) rfl R #[.string ⟨#[]⟩,.slice none 0 0,u64 0,.slice none 0 0,i64 0,.slice none 0 0,.slice none 0 0] rfl rfl 92 _ HB.out.drew (by kernel_rfl) rfl (Ay (by simp[J_])) ?_;refine Al _ (λ _=>(((zr (λ j=>j=R) _)).setRow (.inl rfl) _)) ?_;clear Al;refine pG 6 3 ?_;refine dG ?_;go_wp2_with fail;exact zy (v:=.tuple #[Dm zCm,i64 f]) (by simp[results,D_,go_sem,r0,r1,r2,r3,r4,r5,r6];rfl) rfl ⟨c,f,.inr ⟨hf,rfl⟩,HF.out⟩
 ·refine wX.out.mono ?_;rintro e w5 ⟨rfl,⟨c,f,Jt,hd5,iZ⟩,k5⟩;clear wX HQ0;have o9:Af w1 w5:=KT.out.then k5 (λ j hj hXj=>by
   have q1:=(HT.out.2.2.1.trans H3.out).size
   have q3:=HZ.out.2.2
   have hXj:X<=j:=hXj
   omega)
  have vi:=H0.out.2.1.grew o9;have x0:=Jt.cell 0;have x1:=Jt.cell 1;have x2:=Jt.cell 2;have x3:=Jt.cell 3;have x4:=Jt.cell 4;have x5:=Jt.cell 5;have x6:=Jt.cell 6;have x7:=Jt.cell 7;simp at x0 x1 x2 x3 x4 x5 x6 x7;have HE:=DU hd5 iZ (H0.out.1.trans o9);have HB:=zh vi;clear Jt hd5 iZ k5 o9 vi;by_cases hf:f=0
  ·subst hf;have t6:=HB.out.setRow #[str c.nm,.slice c.ai c.ni c.ci,u64 c.wv,.slice c.aq c.nq c.cq,i64 c.gn,.slice c.ag c.ng c.cg,.slice c.ar c.nr c.cr];obtain⟨r0,r1,r2,r3,r4,r5,r6⟩:=zk7 t6;have HF:Hid (c.nm=nm/\D (w5.setRow R #[str c.nm,.slice c.ai c.ni c.ci,u64 c.wv,.slice c.aq c.nq c.cq,i64 c.gn,.slice c.ag c.ng c.cg,.slice c.ar c.nr c.cr]) c 0/\Af w (w5.setRow R #[str c.nm,.slice c.ai c.ni c.ci,u64 c.wv,.slice c.aq c.nq c.cq,i64 c.gn,.slice c.ag c.ng c.cg,.slice c.ar c.nr c.cr])):=⟨HE.out.2.1,wK.out _ _ _ _ _ _ HE.out.1 ((zr (λ j=>j=R) _).setRow (.inl rfl) _) HB.out,HE.out.2.2.setRow (.inr (by rw[H0.out.2.2];exact zl _)) _⟩;clear t6 HE;go_wp2_with (refine wpList_store_rowTo rfl 92 (.tmp 2) (.tmp 55) rfl rfl R #[str c.nm,.slice c.ai c.ni c.ci,u64 c.wv,.slice c.aq c.nq c.cq,i64 c.gn,.slice c.ag c.ng c.cg,.slice c.ar c.nr c.cr] (by rfl) (by rfl) 92 _ HB.out (by kernel_rfl) rfl (Ay (by simp[J_])) ?_);go_wp2_with fail;exact zy (v:=.tuple #[Dm c,i64 0]) (by simp[results,D_,go_sem,r0,r1,r2,r3,r4,r5,r6]) rfl ⟨c,0,.inl ⟨rfl,rfl⟩,HF.out⟩
  ·have hz:((f:Int) != 0)=true:=by simp;omega
   have y0:=HB.out.frozen 0;have t6:=(HB.out.drew).setRow #[.string ⟨#[]⟩,.slice none 0 0,u64 0,.slice none 0 0,i64 0,.slice none 0 0,.slice none 0 0];obtain⟨r0,r1,r2,r3,r4,r5,r6⟩:=zk7 t6;have HF:Hid (c.nm=nm/\D (w5.drew.setRow R #[.string ⟨#[]⟩,.slice none 0 0,u64 0,.slice none 0 0,i64 0,.slice none 0 0,.slice none 0 0]) c f/\Af w (w5.drew.setRow R #[.string ⟨#[]⟩,.slice none 0 0,u64 0,.slice none 0 0,i64 0,.slice none 0 0,.slice none 0 0])):=⟨HE.out.2.1,wK.out _ _ _ _ _ _ HE.out.1 ((zr (λ j=>j=R) _).drew.setRow (.inl rfl) _) HB.out,HE.out.2.2.drew.setRow (.inr (by rw[H0.out.2.2];exact zl _)) _⟩;have HX7:Hid (∀ W',Kept (λ j=>j=R) w5 W'->W'.cell? ⟨X,7,none⟩=some (i64 f)):=λ W' k=>k.cell x7 (by
    have q1:=(HT.out.2.2.1.trans H3.out).size
    have q3:=HZ.out.2.2
    have q4:=H0.out.2.1.lt
    show ¬ X=R
    omega)
   clear t6 HE;go_upto_region 11 with fail;refine rG [] (λ j=>j=R) ?_;refine pG 0 47 ?_;refine pG 1 48 ?_;refine pG 2 49 ?_;refine pG 3 50 ?_;refine tF 4 51 HX7.out (((zr (λ j=>j=R) w5).drew)) ?_;refine Du 5 (λ K Al=>?_);refine wp_store_row 92 (.tmp 2) (.tmp 47) rfl R #[.string ⟨#[]⟩,.slice none 0 0,u64 0,.slice none 0 0,i64 0,.slice none 0 0,.slice none 0 0] rfl rfl 92 _ HB.out.drew (by kernel_rfl) rfl (Ay (by simp[J_])) ?_;refine Al _ (λ _=>(((zr (λ j=>j=R) _)).setRow (.inl rfl) _)) ?_;clear Al;refine pG 6 3 ?_;refine dG ?_;go_wp2_with fail;exact zy (v:=.tuple #[Dm zCm,i64 f]) (by simp[results,D_,go_sem,r0,r1,r2,r3,r4,r5,r6];rfl) rfl ⟨c,f,.inr ⟨hf,rfl⟩,HF.out⟩
theorem Kept.le {w w':H_} {X:Nat} (h:Kept (λ j=>j=X) w w'):Kept (λ j=>X<=j) w w':=h.mono λ j _ e=>by omega
theorem fT {w w':H_} {T:Nat} {t:TypeId} {ds:Array Value} {base n size:Nat} {e:TypeId} {v:Value} {xs:List Value} (h:w.ownsRow base e size v n xs) (k:Kept (λ j=>j=T) w w') (hT:Ao w T t ds) (Bn:e≠t):w'.ownsRow base e size v n xs :=
 Kept.own k h λ j hj e'=>by
  obtain⟨_,cur,hc⟩:=Ap h hj;exact Ao.ne (show Ao w j e cur from hc) hT Bn e'
def NX (N:Nat) (es:List AJ) (w:H_) (c:Cm):Prop:=c.gn=(N:Int)/\c.ng=es.length/\∃ B,AP w B (.slice c.ag c.ng c.cg) es
theorem NX.row {N:Nat} {es:List AJ} {w:H_} {c:Cm} (h:NX N es w c):Bo w c.ag es:=by
 obtain⟨_,h2,B,h3⟩:=h;obtain⟨A,k,hv,hr⟩:=h3.row;injection hv with e1 _ _;rw[e1];exact hr
theorem Mu (N:Nat) (es:List AJ):∀ x∈AK N es,CX x:=by
 intro x hx;unfold AK at hx;rcases N_.1 hx with rfl | hx
 ·exact EM _
 ·rcases N_.1 hx with rfl | hx
  ·exact EM _
  ·obtain⟨e,_,he⟩:=O_.1 hx;unfold DA at he;simp only[N_,Pc,or_false]at he;rcases he with rfl | rfl | rfl<;>exact EM _
theorem zw (ws:List (List UInt8)) (M:Nat) (h:∀ x∈ws,x.length<=M):(ws.map List.length).sum<=ws.length*M:=by
 induction ws with
 | nil=>simp
 | cons x ws ih =>
  have h1:=ih λ y hy=>h y (by simp[hy]);have h2:=h x (by simp);have h3:(ws.length+1)*M=ws.length*M+M:=Nat.succ_mul _ _;simp only[List.map_cons,List.sum_cons,Pd];omega
theorem FP (x:List UInt8) (ws:List (List UInt8)) (M:Nat) (h:∀ y∈ws,y.length<=M):(Az (x::ws)).length<=x.length+ws.length+ws.length*M:=by
 have:=zw ws M h;show (x++Dv ws).length<=_;rw[Pb,kN];omega
theorem Mt (N:Nat) (es:List AJ) (hr:Au N es=0) (hm:es.length<=1000):∀ x∈AK N es,x.length<=10:=by
 intro x hx;have hz:=right_zero hr;have d10:∀ n:Nat,n<10000000000->(dec n).length<=10:=λ n h=>DD (k:=9) (by omega);unfold AK at hx;rcases N_.1 hx with rfl | hx
 ·exact d10 _ (by have:=hz.2.1;omega)
 ·rcases N_.1 hx with rfl | hx
  ·exact d10 _ (by omega)
  ·obtain⟨⟨p,q,r⟩,Jv,he⟩:=O_.1 hx;have hE:=CT hr Jv;unfold NG at hE;simp only at hE;have hN:=hz.2.1;unfold DA at he;simp only[N_,Pc,or_false]at he;rcases he with rfl | rfl | rfl<;>exact d10 _ (by omega)
theorem dU (N:Nat) (es:List AJ) (hr:Au N es=0) (hm:es.length<=1000) (w:H_) :
  I_ A_ 34 #[str (Az (Am 0::AK N es))] w λ e w'=>∃ c:Cm,e=.returned (.tuple #[Dm c,i64 0])/\c.nm=Am 0/\NX N es w' c/\Af w w':=by
 have hlen:=CY N es
 refine(Gb 0 (by omega) (AK N es) (λ W c f=>f=0/\NX N es W c) (Mu N es) ?_ (by rw[hlen];omega) ?_ ?_ w).mono ?_
 ·have h1:=FP (Am 0) (AK N es) 10 (Mt N es hr hm);have h2:(Am 0).length=4:=rfl;omega
 ·intro W X A cap h hT Bi hA;refine(kg X cap N A es 0 _ _ W hr hm hT Bi h).mono ?_;rintro e W' ⟨rfl,⟨v,dx,hed⟩,k⟩;obtain⟨A1,c1,hv,AX⟩:=hed.row;subst hv;exact⟨rfl,⟨⟨Am 0,none,0,0,0,none,0,0,N,A1,es.length,c1,none,0,0⟩,0,dx.blk,⟨rfl,rfl,rfl,_,hed⟩,rfl⟩,k.le⟩
 ·rintro W W' c f T cs ⟨h0,h1,h2,B,h3⟩ k hT;exact⟨h0,h1,h2,B,fT h3 k hT (by decide)⟩
 ·rintro e w' ⟨c,f,he,hn,⟨rfl,hd⟩,g⟩;rcases he with ⟨_,rfl⟩ | ⟨h,_⟩
  ·exact⟨c,rfl,hn,hd,g⟩
  ·exact absurd rfl h
def IM (rk:List Int) (w:H_) (c:Cm):Prop:=c.nr=rk.length/\∃ B,AS w B (.slice c.ar c.nr c.cr) rk
theorem IM.row {rk:List Int} {w:H_} {c:Cm} (h:IM rk w c):RowI w c.ar rk:=by
 obtain⟨h2,B,h3⟩:=h;obtain⟨A,k,hv,hr⟩:=h3.row;injection hv with e1 _ _;rw[e1];exact hr
theorem Nd (w:H_) :
  I_ A_ 34 #[str (Am 1)] w λ e w'=>∃ c:Cm,e=.returned (.tuple #[Dm c,i64 0])/\c.nm=Am 1/\IM [] w' c/\Af w w':=by
 have hj:Az (Am 1::[])=Am 1:=by simp[Az,Dv]
 have:=Gb 1 (by omega) [] (λ W c f=>f=0/\IM [] W c) (λ x hx=>by simp at hx) (by rw[hj];decide) (by simp) (λ W X A cap h hT Bi hA=>?_) ?_ w
 ·rw[hj]at this;refine this.mono ?_;rintro e w' ⟨c,f,he,hn,⟨rfl,hd⟩,g⟩;rcases he with ⟨_,rfl⟩ | ⟨h,_⟩
  ·exact⟨c,rfl,hn,hd,g⟩
  ·exact absurd rfl h
 ·refine(aC X cap A 0 _ _ W h).mono ?_;rintro e W' ⟨rfl,rfl⟩;exact⟨rfl,⟨⟨Am 1,none,0,0,0,none,0,0,0,none,0,0,none,0,0⟩,0,h.blk,⟨rfl,rfl,0,⟨rfl,.inl ⟨rfl,rfl⟩⟩⟩,rfl⟩,zr _ _⟩
 ·rintro W W' c f T cs ⟨h0,h1,B,h3⟩ k hT;exact⟨h0,h1,B,fT h3 k hT (by decide)⟩
theorem dI {zs:List Nat} (h:zs≠[]):CX (Bm (zs.map dec)):=by
 refine⟨OQ h,λ c hc=>?_⟩;have hd:∀ n:Nat,∀ c∈dec n,sgn c=true:=λ n=>(EM n).2;cases zs with
 | nil=>exact absurd rfl h
 | cons n zs =>
  simp only[List.map_cons,Bm,List.mem_append]at hc;rcases hc with hc | hc
  ·exact hd n c hc
  ·simp only[EB,O_,List.mem_map,N_]at hc;obtain⟨x,⟨m,_,rfl⟩,rfl | hc⟩:=hc
   ·decide
   ·exact hd m c hc
theorem Ih (zs:List Nat) (Bn:zs≠[]) (hz:∀ n∈zs,n<=4096) (hl:zs.length<=100) (Be:Bu (Bc zs)) (w:H_) :
  I_ A_ 34 #[str (Am 1++32::Bm (zs.map dec))] w λ e w'=>∃ c:Cm,e=.returned (.tuple #[Dm c,i64 0])/\c.nm=Am 1/\IM (Bc zs) w' c/\Af w w':=by
 have hj:Az (Am 1::[Bm (zs.map dec)])=Am 1++32::Bm (zs.map dec):=by simp[Az,Dv]
 have hsum:∀ l:List Nat,(∀ n∈l,n<=4096)->((l.map dec).map List.length).sum<=l.length*4:=λ l=>by
  induction l with
  | nil=>intro _;simp
  | cons n l ih =>
   intro h;have h1:=ih (λ m hm=>h m (by simp[hm]));have h2:=DD (k:=3) (n:=n) (by have:=h n (by simp);omega);simp at h1 ⊢;omega
 have hlen:=Ma (zs.map dec)
 have hs:=hsum zs hz
 rw[Pa]at hlen
 have:=Gb 1 (by omega) [Bm (zs.map dec)] (λ W c f=>f=0/\IM (Bc zs) W c) (λ x hx=>by simp at hx;subst hx;exact dI Bn) (by rw[hj,Pb,Pd];have:(Am 1).length=5:=rfl;omega) (by simp) (λ W X A cap h hT Bi hA=>?_) ?_ w
 ·rw[hj]at this;refine this.mono ?_;rintro e w' ⟨c,f,he,hn,⟨rfl,hd⟩,g⟩;rcases he with ⟨_,rfl⟩ | ⟨h,_⟩
  ·exact⟨c,rfl,hn,hd,g⟩
  ·exact absurd rfl h
 ·refine(aD X cap A zs 0 _ W Bn hz (by omega) Be hT (by simpa using Bi) h).mono ?_;rintro e W' ⟨rfl,⟨v,dx,ho⟩,k⟩;obtain⟨A1,c1,rfl⟩:=At ho;exact⟨rfl,⟨⟨Am 1,none,0,0,0,none,0,0,0,none,0,0,A1,(Bc zs).length,c1⟩,0,dx.blk,⟨rfl,rfl,_,ho⟩,rfl⟩,k.le⟩
 ·rintro W W' c f T cs ⟨h0,h1,B,h3⟩ k hT;exact⟨h0,h1,B,fT h3 k hT (by decide)⟩
def GD (s:St) (w:H_) (c:Cm):Prop:=c.wv=s.wv/\c.ni=s.zs.length/\∃ B,AS w B (.slice c.ai c.ni c.ci) s.zs
theorem GZ (i:Nat) (D0:List Arg) (hi:i<13) (h0:i≠0) (h1:i≠1) (h9:i≠9) (hk:Cu i=D0.map (·.k)) (hall:∀ a∈D0,N8 a) (fl:∀ k,k<D0.length->(Df ⟨[],0,[],0⟩ (D0.take k)).f=0) (Be:∀ a∈D0,CX a.l) (hlen:(Az (Am i::D0.map (·.l))).length<=65536) (hn:D0.length<=100) (f:Nat) (hf:(Df ⟨[],0,[],0⟩ D0).f=f) (w:H_) :
  I_ A_ 34 #[str (Az (Am i::D0.map (·.l)))] w λ e w'=>∃ c:Cm,MC c f e/\c.nm=Am i/\GD (Df ⟨[],0,[],0⟩ D0) w' c/\Af w w':=by
 obtain⟨S,hS⟩:=zn (Df ⟨[],0,[],0⟩ D0)
 rw[hS]at hf ⊢
 have h3:(D0.map (·.l)).length<16384:=by rw[Pa];omega
 have h4:∀ x∈D0.map (·.l),CX x:=λ x hx=>by obtain⟨a,ha,rfl⟩:=List.mem_map.1 hx;exact Be a ha
 have h5:uO i (D0.map (·.l)) (λ W c f'=>f'=f/\GD (S) W c):=by
  intro W X A cap h hT Bi hA;rw[Pa]at Bi ⊢;refine(ke X i cap A D0 0 _ _ W hi h0 h1 h9 hk hall fl hT Bi hn h hA).mono ?_;rintro e W' ⟨rfl,⟨v,q,dx⟩,k⟩;rw[hS]at dx;obtain⟨A1,c1,rfl⟩:=At dx.own;obtain⟨A2,c2,rfl⟩:=At dx.ownq;have hb:=dx.blk;rw[hf]at hb;exact⟨rfl,⟨⟨Am i,A1,S.zs.length,c1,S.wv,A2,S.qs.length,c2,0,none,0,0,none,0,0⟩,f,hb,⟨rfl,rfl,rfl,_,dx.own⟩,rfl⟩,k⟩
 have h6:∀ W W' c f' T cs,(f'=f/\GD S W c)->Kept (λ j=>j=T) W W'->Ao W T 92 cs->(f'=f/\GD S W' c):=by
  rintro W W' c f' T cs ⟨h0,h1,h2,B,h3⟩ k hT;exact⟨h0,h1,h2,B,fT h3 k hT (by decide)⟩
 have h7:=Gb i hi (D0.map (·.l)) (λ W c f'=>f'=f/\GD S W c) h4 hlen h3 h5 h6 w
 refine h7.mono ?_
 rintro e w' ⟨c,f',he,D1,⟨e1,hd⟩,g⟩
 rw[e1]at he
 exact⟨c,he,D1,hd,g⟩
theorem M9 (w:H_) (X:Nat) (line:List UInt8) (v:H_->Value->Prop) (t:ByteArray) (R:H_->Prop) (hDo:I_ A_ 10 #[pt X,str line] w λ e w'=>∃ u,e=.returned u/\v w' u/\R w')
  (hPr:∀ W u,v W u->I_ A_ 36 #[u] W λ e w'=>e=.returned (.string t)/\Af W w') (hR:∀ W W',R W->Af W W'->R W') :
  I_ A_ 14 #[pt X,str line] w λ e w'=>e=.returned (.string t)/\R w':=by
 have HD:=zh hDo
 have HP:=zh hPr
 have HR:=zh hR
 clear hDo hPr hR
 go_enter Tryz.func14,Tryz.ntmps14
 go_wp2_with fail
 refine HD.out.mono ?_
 rintro e w1 ⟨u,rfl,hv,hr⟩
 have eJ:=zh (HP.out _ _ hv)
 have Hr:=zh hr
 clear hv hr HD HP
 go_wp2_with fail
 refine eJ.out.mono ?_
 rintro e w2 ⟨rfl,g⟩
 have Hg:=zh (HR.out _ _ Hr.out g)
 clear g eJ Hr
 go_wp2_with fail
 go_ret
 exact⟨rfl,Hg.out⟩
theorem pb (w:H_) (X:Nat) (line:List UInt8) (k:Nat) (hk:1<=k/\k<15) (R:H_->Prop) (hDo:I_ A_ 10 #[pt X,str line] w λ e w'=>e=.returned (BN k)/\R w') (hR:∀ W W',R W->Af W W'->R W') :
  I_ A_ 14 #[pt X,str line] w λ e w'=>e=.returned (.string (MO k))/\R w' :=
 M9 w X line (λ _ u=>u=BN k) (MO k) R (hDo.mono λ e w' h=>⟨_,h.1,rfl,h.2⟩) (λ W u hu=>by rw[hu];exact Ng k hk W) hR
theorem oc (w:H_):I_ A_ 32 #[.pointer none] w λ e w'=>e=.returned (.agg #[.slice none 0 0,.slice none 0 0])/\Af w w':=by
 go_enter Tryz.func32,Tryz.ntmps32;go_wp2_with fail;have b:=zv w 87 #[.slice none 0 0,.slice none 0 0];obtain⟨c0,c1⟩:=BP b;exact zy (v:=.agg #[.slice none 0 0,.slice none 0 0]) (by simp[results,Tryz.results32,go_sem,c0,c1]) rfl ⟨rfl,(zr _ _).alloc _⟩
theorem cU (W:H_):(Instr.field 87 (.agg #[.slice none 0 0,.slice none 0 0]) 0).run A_ W=.ok (.slice none 0 0) W:=by kernel_rfl
theorem kC {w:H_} {X Y B:Nat} {Ah Ac:Int} {ph N:Nat} {es:List AJ} {hx:Option Hx} (h:AB w X Y B Ah Ac ph N es hx) (Dl:ph<=4) (hn:ph≠2) :
  I_ A_ 9 #[pt X] w λ e w'=>e=.returned (.slice none 0 0)/\AB w' X Y B Ah Ac ph N es hx/\Af w w':=by
 have x0:w.cell? ⟨X,0,none⟩=some (pt Y):=by
  obtain⟨left,done,q1,_,q3⟩:=h;have p:=Ao.cell q1 0;simp at p;exact p
 have HH:Hid (I_ A_ 31 #[pt Y] w λ e w'=>e=.returned (.tuple #[.pointer none,i64 (Gg ph 2)])/\Af w w'):=by
  obtain⟨left,done,q1,q2,q3⟩:=h;obtain⟨Ak,ck,ev,hv,c0,c1,c2,q⟩:=q2;exact Mq ph Dl hn q.blk
 have HS:=zh h
 have HN:=zh oc
 have ry:=cU
 clear h
 go_enter Tryz.func9,Tryz.ntmps9
 go_wp2_with fail
 refine HH.out.mono ?_
 rintro e w3 ⟨rfl,g3⟩
 have H3:=zh g3
 clear HH x0 g3
 go_wp2_with fail
 refine(HN.out _).mono ?_
 rintro e w4 ⟨rfl,g4⟩
 have H4:=zh (H3.out.trans g4)
 clear g4
 go_wp2_with fail
 exact zy (v:=.slice none 0 0) (by simp[results,Tryz.results9,go_sem]) rfl ⟨rfl,HS.out.grew H4.out,H4.out⟩
theorem iM (A A2:Option Addr) (n c n2 c2:Nat) (W:H_):(Instr.field 87 (.agg #[.slice A n c,.slice A2 n2 c2]) 0).run A_ W=.ok (.slice A n c) W:=by kernel_rfl
theorem ez {w:H_} {X Y B:Nat} {Ah Ac:Int} {N:Nat} {es:List AJ} {x:Hx} (h:AB w X Y B Ah Ac 2 N es (some x)) (GU:x.rk.length<=100000) (DS:x.ss.length<=100000) :
  I_ A_ 9 #[pt X] w λ e w'=>∃ v,e=.returned v/\AS w' w.heap.size v x.rk/\Af w w':=by
 have x0:w.cell? ⟨X,0,none⟩=some (pt Y):=by
  obtain⟨left,done,q1,_,q3⟩:=h;have p:=Ao.cell q1 0;simp at p;exact p
 obtain⟨H,HH,HQ⟩:∃ H,Hid (I_ A_ 31 #[pt Y] w λ e w'=>e=.returned (.tuple #[pt H,i64 0])/\Af w w')/\Hid (∀ W,Af w W->I_ A_ 32 #[pt H] W λ e w'=>∃ v1 v2,e=.returned (.agg #[v1,v2])/\AS w' W.heap.size v1 x.rk/\FI w' W.heap.size v2 x.ss/\Af W w'):=by
  obtain⟨left,done,q1,q2,q3⟩:=h;obtain⟨Ak,ck,ev,hv,c0,c1,c2,q⟩:=q2;obtain⟨H,rfl,hH,_,_⟩:=q.hier;exact⟨H,KX q.blk,λ W k=>FM (hH.grew k) GU DS⟩
 have ry:=iM
 clear h GU DS
 go_enter Tryz.func9,Tryz.ntmps9
 go_wp2_with fail
 refine HH.out.mono ?_
 rintro e w3 ⟨rfl,g3⟩
 have H3:=zh g3
 clear HH x0 g3
 go_wp2_with fail
 refine(HQ.out _ H3.out).mono ?_
 rintro e w4 ⟨v1,v2,rfl,o1,o2,g4⟩
 obtain⟨A1,c1,rfl,r1⟩:=o1.row
 obtain⟨A2,c2,rfl,r2,_⟩:=o2.row
 have H4:=BO ((AD o1 H3.out.size:AS w4 w.heap.size _ _)) (H3.out.trans g4)
 clear g4 o1 o2 r1 r2 HQ
 go_wp2_with fail
 exact zy (v:=.slice A1 x.rk.length c1) (by simp[results,Tryz.results9,go_sem]) rfl ⟨_,rfl,H4.out⟩
end Go.Proofs.YtepelooebggliaaGreatDoor
