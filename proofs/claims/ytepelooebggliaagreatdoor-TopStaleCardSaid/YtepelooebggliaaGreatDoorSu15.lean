/- Walks of functions that the law reaches, and plain laws, part 16 of 21: lemmas for the proof in the last text; no condition. Shortened by program. -/
import Derived.Test.YtepelooebggliaaGreatDoorSu0
import Derived.Test.YtepelooebggliaaGreatDoorSu2
import Derived.Test.YtepelooebggliaaGreatDoorSu5
import Derived.Test.YtepelooebggliaaGreatDoorSu10
import Derived.Test.YtepelooebggliaaGreatDoorSu12
open Go.Proofs.Tryz renaming prog->A_,ntmps35->B_,func35->C_,results34->D_,results10->E_
open Go renaming World->F_,Calls->G_
open Go.Value renaming oneCell'->H_
open List renaming mem_cons->I_,mem_flatMap->J_,length_map->K_,length_append->L_,not_mem_nil->M_,length_cons->N_
open Go.World renaming setRow->O_,alloc->Pa,heap->Pb
set_option maxHeartbeats 16000000
set_option maxRecDepth 100000
set_option linter.unusedVariables false
set_option linter.unusedSimpArgs false
namespace Go.Proofs.YtepelooebggliaaGreatDoor
open Go.RowKit
theorem oO (w:F_):G_ A_ 35 #[str (Af 0)] w λ e w'=>e=.returned (.func (.func 57) #[] #[])/\w=w':=by
 have e0:((bs (Af 0)).toList==[76,79,65,68])=true:=by rw[Al];rfl
 obtain⟨nm,Cw⟩:=zn (Af 0);rw[Cw]at e0 ⊢;clear Cw;go_enter C_,B_;go_wp2_with fail;go_ret;exact⟨rfl,rfl⟩
theorem jI (w:F_):G_ A_ 35 #[str (Af 1)] w λ e w'=>e=.returned (.func (.func 58) #[] #[])/\w=w':=by
 have e0:((bs (Af 1)).toList==[76,79,65,68])=false:=by rw[Al];rfl
 have e1:((bs (Af 1)).toList==[66,85,73,76,68])=true:=by rw[Al];rfl
 obtain⟨nm,Cw⟩:=zn (Af 1);rw[Cw]at e0 e1 ⊢;clear Cw;go_enter C_,B_;go_wp2_with fail;go_ret;exact⟨rfl,rfl⟩
theorem OY (w:F_):G_ A_ 35 #[str (Af 7)] w λ e w'=>e=.returned (.func (.func 59) #[] #[])/\w=w':=by
 have e0:((bs (Af 7)).toList==[76,79,65,68])=false:=by rw[Al];rfl
 have e1:((bs (Af 7)).toList==[66,85,73,76,68])=false:=by rw[Al];rfl
 have e2:((bs (Af 7)).toList==[83,69,84,87])=true:=by rw[Al];rfl
 obtain⟨nm,Cw⟩:=zn (Af 7);rw[Cw]at e0 e1 e2 ⊢;clear Cw;go_enter C_,B_;go_wp2_with fail;go_ret;exact⟨rfl,rfl⟩
theorem Mw (w:F_):G_ A_ 35 #[str (Af 2)] w λ e w'=>e=.returned (.func (.func 62) #[] #[])/\w=w':=by
 have e0:((bs (Af 2)).toList==[76,79,65,68])=false:=by rw[Al];rfl
 have e1:((bs (Af 2)).toList==[66,85,73,76,68])=false:=by rw[Al];rfl
 have e2:((bs (Af 2)).toList==[83,69,84,87])=false:=by rw[Al];rfl
 have e3:((bs (Af 2)).toList==[81,85,73,84])=false:=by rw[Al];rfl
 have e4:((bs (Af 2)).toList==[83,84,65,84])=false:=by rw[Al];rfl
 have e5:((bs (Af 2)).toList==[68,85,77,80])=false:=by rw[Al];rfl
 have e6:((bs (Af 2)).toList==[82,79,85,84,69])=true:=by rw[Al];rfl
 obtain⟨nm,Cw⟩:=zn (Af 2);rw[Cw]at e0 e1 e2 e3 e4 e5 e6 ⊢;clear Cw;go_enter C_,B_;go_wp2_with fail;go_ret;exact⟨rfl,rfl⟩
theorem OX (w:F_):G_ A_ 35 #[str (Af 3)] w λ e w'=>e=.returned (.func (.func 63) #[] #[])/\w=w':=by
 have e0:((bs (Af 3)).toList==[76,79,65,68])=false:=by rw[Al];rfl
 have e1:((bs (Af 3)).toList==[66,85,73,76,68])=false:=by rw[Al];rfl
 have e2:((bs (Af 3)).toList==[83,69,84,87])=false:=by rw[Al];rfl
 have e3:((bs (Af 3)).toList==[81,85,73,84])=false:=by rw[Al];rfl
 have e4:((bs (Af 3)).toList==[83,84,65,84])=false:=by rw[Al];rfl
 have e5:((bs (Af 3)).toList==[68,85,77,80])=false:=by rw[Al];rfl
 have e6:((bs (Af 3)).toList==[82,79,85,84,69])=false:=by rw[Al];rfl
 have e7:((bs (Af 3)).toList==[68,73,83,84])=true:=by rw[Al];rfl
 obtain⟨nm,Cw⟩:=zn (Af 3);rw[Cw]at e0 e1 e2 e3 e4 e5 e6 e7 ⊢;clear Cw;go_enter C_,B_;go_wp2_with fail;go_ret;exact⟨rfl,rfl⟩
theorem tN (w:F_):G_ A_ 35 #[str (Af 4)] w λ e w'=>e=.returned (.func (.func 64) #[] #[])/\w=w':=by
 have e0:((bs (Af 4)).toList==[76,79,65,68])=false:=by rw[Al];rfl
 have e1:((bs (Af 4)).toList==[66,85,73,76,68])=false:=by rw[Al];rfl
 have e2:((bs (Af 4)).toList==[83,69,84,87])=false:=by rw[Al];rfl
 have e3:((bs (Af 4)).toList==[81,85,73,84])=false:=by rw[Al];rfl
 have e4:((bs (Af 4)).toList==[83,84,65,84])=false:=by rw[Al];rfl
 have e5:((bs (Af 4)).toList==[68,85,77,80])=false:=by rw[Al];rfl
 have e6:((bs (Af 4)).toList==[82,79,85,84,69])=false:=by rw[Al];rfl
 have e7:((bs (Af 4)).toList==[68,73,83,84])=false:=by rw[Al];rfl
 have e8:((bs (Af 4)).toList==[65,76,84])=true:=by rw[Al];rfl
 obtain⟨nm,Cw⟩:=zn (Af 4);rw[Cw]at e0 e1 e2 e3 e4 e5 e6 e7 e8 ⊢;clear Cw;go_enter C_,B_;go_wp2_with fail;go_ret;exact⟨rfl,rfl⟩
theorem tO (w:F_):G_ A_ 35 #[str (Af 5)] w λ e w'=>e=.returned (.func (.func 65) #[] #[])/\w=w':=by
 have e0:((bs (Af 5)).toList==[76,79,65,68])=false:=by rw[Al];rfl
 have e1:((bs (Af 5)).toList==[66,85,73,76,68])=false:=by rw[Al];rfl
 have e2:((bs (Af 5)).toList==[83,69,84,87])=false:=by rw[Al];rfl
 have e3:((bs (Af 5)).toList==[81,85,73,84])=false:=by rw[Al];rfl
 have e4:((bs (Af 5)).toList==[83,84,65,84])=false:=by rw[Al];rfl
 have e5:((bs (Af 5)).toList==[68,85,77,80])=false:=by rw[Al];rfl
 have e6:((bs (Af 5)).toList==[82,79,85,84,69])=false:=by rw[Al];rfl
 have e7:((bs (Af 5)).toList==[68,73,83,84])=false:=by rw[Al];rfl
 have e8:((bs (Af 5)).toList==[65,76,84])=false:=by rw[Al];rfl
 obtain⟨nm,Cw⟩:=zn (Af 5);rw[Cw]at e0 e1 e2 e3 e4 e5 e6 e7 e8 ⊢;clear Cw;go_enter C_,B_;go_wp2_with fail;go_ret;exact⟨rfl,rfl⟩
theorem tP (w:F_):G_ A_ 35 #[str (Af 6)] w λ e w'=>e=.returned (.func (.func 65) #[] #[])/\w=w':=by
 have e0:((bs (Af 6)).toList==[76,79,65,68])=false:=by rw[Al];rfl
 have e1:((bs (Af 6)).toList==[66,85,73,76,68])=false:=by rw[Al];rfl
 have e2:((bs (Af 6)).toList==[83,69,84,87])=false:=by rw[Al];rfl
 have e3:((bs (Af 6)).toList==[81,85,73,84])=false:=by rw[Al];rfl
 have e4:((bs (Af 6)).toList==[83,84,65,84])=false:=by rw[Al];rfl
 have e5:((bs (Af 6)).toList==[68,85,77,80])=false:=by rw[Al];rfl
 have e6:((bs (Af 6)).toList==[82,79,85,84,69])=false:=by rw[Al];rfl
 have e7:((bs (Af 6)).toList==[68,73,83,84])=false:=by rw[Al];rfl
 have e8:((bs (Af 6)).toList==[65,76,84])=false:=by rw[Al];rfl
 obtain⟨nm,Cw⟩:=zn (Af 6);rw[Cw]at e0 e1 e2 e3 e4 e5 e6 e7 e8 ⊢;clear Cw;go_enter C_,B_;go_wp2_with fail;go_ret;exact⟨rfl,rfl⟩
theorem oP (w:F_):G_ A_ 35 #[str (Af 8)] w λ e w'=>e=.returned (.func (.func 65) #[] #[])/\w=w':=by
 have e0:((bs (Af 8)).toList==[76,79,65,68])=false:=by rw[Al];rfl
 have e1:((bs (Af 8)).toList==[66,85,73,76,68])=false:=by rw[Al];rfl
 have e2:((bs (Af 8)).toList==[83,69,84,87])=false:=by rw[Al];rfl
 have e3:((bs (Af 8)).toList==[81,85,73,84])=false:=by rw[Al];rfl
 have e4:((bs (Af 8)).toList==[83,84,65,84])=false:=by rw[Al];rfl
 have e5:((bs (Af 8)).toList==[68,85,77,80])=false:=by rw[Al];rfl
 have e6:((bs (Af 8)).toList==[82,79,85,84,69])=false:=by rw[Al];rfl
 have e7:((bs (Af 8)).toList==[68,73,83,84])=false:=by rw[Al];rfl
 have e8:((bs (Af 8)).toList==[65,76,84])=false:=by rw[Al];rfl
 obtain⟨nm,Cw⟩:=zn (Af 8);rw[Cw]at e0 e1 e2 e3 e4 e5 e6 e7 e8 ⊢;clear Cw;go_enter C_,B_;go_wp2_with fail;go_ret;exact⟨rfl,rfl⟩
theorem oQ (w:F_):G_ A_ 35 #[str (Af 9)] w λ e w'=>e=.returned (.func (.func 65) #[] #[])/\w=w':=by
 have e0:((bs (Af 9)).toList==[76,79,65,68])=false:=by rw[Al];rfl
 have e1:((bs (Af 9)).toList==[66,85,73,76,68])=false:=by rw[Al];rfl
 have e2:((bs (Af 9)).toList==[83,69,84,87])=false:=by rw[Al];rfl
 have e3:((bs (Af 9)).toList==[81,85,73,84])=false:=by rw[Al];rfl
 have e4:((bs (Af 9)).toList==[83,84,65,84])=false:=by rw[Al];rfl
 have e5:((bs (Af 9)).toList==[68,85,77,80])=false:=by rw[Al];rfl
 have e6:((bs (Af 9)).toList==[82,79,85,84,69])=false:=by rw[Al];rfl
 have e7:((bs (Af 9)).toList==[68,73,83,84])=false:=by rw[Al];rfl
 have e8:((bs (Af 9)).toList==[65,76,84])=false:=by rw[Al];rfl
 obtain⟨nm,Cw⟩:=zn (Af 9);rw[Cw]at e0 e1 e2 e3 e4 e5 e6 e7 e8 ⊢;clear Cw;go_enter C_,B_;go_wp2_with fail;go_ret;exact⟨rfl,rfl⟩
section
variable {w:F_} {X Y B:Nat} {hops settles:Int} {ph N:Nat} {es:List AB} {hx:Option Hx}
theorem Au.did (h:Au w X Y B hops settles ph N es hx) (o:Obj):∃ left done,SvB (w.alloc o) X Y left done/\Au ((w.alloc o).setCell ⟨X,2,none⟩ (i64 (wrap64 (done+1)))) X Y B hops settles ph N es hx:=by
 obtain⟨left,done,h1,h2,h3⟩:=h;have g1:Ac w (w.alloc o):=(zr _ _).alloc _;have b1:=Am.grew h1 g1;refine⟨left,done,b1,left,wrap64 (done+1),?_,?_,h3⟩
 ·have:=b1.set 2 (i64 (wrap64 (done+1)));unfold SvB;simpa using this
 ·refine(h2.grew g1).kept ((zr (λ j=>j=X) _).setCell (p:=⟨X,2,none⟩) (.inl rfl) _) (λ e=>h3.1 e.symm) (λ j hj e=>?_);have:=h3.2.1;omega
theorem xZ (line:List UInt8) (f:Nat) (hf:1<=f/\f<15) (h:Au w X Y B hops settles ph N es hx) (DP:ph<=3)
  (hR:∀ W,G_ A_ 34 #[str line] W λ e W'=>e=.returned (.tuple #[CV ⟨[],none,0,0,0,none,0,0,0,none,0,0,none,0,0⟩,i64 f])/\Ac W W') :
  G_ A_ 10 #[pt X,str line] w λ e w'=>e=.returned (Bx f)/\Au w' X Y B hops settles ph N es hx/\Kept (λ j=>j=X) w w':=by
 obtain⟨T,hT⟩:=zn (w.heap.size)
 have hXT:X<T/\Y<T:=by rw[<- hT];exact h.lt
 obtain⟨left,done,jJ,oY⟩:=h.did (.cells #[i64 0,.string ⟨#[]⟩,.slice none 0 0,.slice none 0 0,.slice none 0 0] 42)
 obtain⟨w0,Oe,g0,b0⟩:=zb w #[i64 0,.string ⟨#[]⟩,.slice none 0 0,.slice none 0 0,.slice none 0 0] 42 hT
 rw[Oe]at jJ oY
 have x2:=Am.cell jJ 2
 have f2:=Am.frozen jJ 2
 simp at x2
 obtain⟨w1,AQ⟩:=zn (w0.setCell ⟨X,2,none⟩ (i64 (wrap64 (done+1))))
 rw[AQ]at oY
 have k1:Kept (λ j=>j=X) w w1:=by rw[<- AQ];exact(Ac.kept (F:=λ j=>j=X) g0).setCell (p:=⟨X,2,none⟩) (.inl rfl) _
 have b1:Am w1 T 42 #[i64 0,.string ⟨#[]⟩,.slice none 0 0,.slice none 0 0,.slice none 0 0]:=by rw[<- AQ];exact b0.far (p:=⟨X,2,none⟩) (by show T≠X;omega) _
 have HP:=zh (oY.elim λ l h=>h.elim λ d h=>h.2.1.elim λ Ak h'=>h'.elim λ ck h'=>h'.elim λ ev h'=>h'.elim λ hv h'=>h'.elim λ c0 h'=>h'.elim λ c1 h'=>h'.elim λ c2 h'=>Jj (ph:Int) h.1 h'.blk)
 have H0:=DS oY k1 b1 hXT
 have HE:=zh (λ W=>D7 f hf W)
 have HT:=zh hT
 have HR:=zh hR
 have p4:((ph:Int)==4)=false:=by simp;omega
 have z4:((f:Int) != 0)=true:=by simp;omega
 clear oY b0 g0 k1 b1 jJ hR hf DP
 go_enter Tryz.func10,Tryz.ntmps10
 go_upto_region 4 with fail
 have e0:w.alloc (.cells #[.int .i64 0,.string ⟨#[]⟩,.slice none 0 0,.slice none 0 0,.slice none 0 0] 42)=w0:=Oe
 have e1:w0.setCell ⟨X,2,none⟩ (.int .i64 (wrap64 (done+1)))=w1:=AQ
 try rw [e0]
 try rw [e1]
 try rw [hT]
 clear e0 e1 Oe AQ hT x2 f2
 go_wp2_with fail
 refine HP.out.mono ?_
 rintro e w9 ⟨rfl,rfl⟩
 clear HP
 go_wp2_with fail
 refine(HR.out _).mono ?_
 rintro e w2 ⟨rfl,g2⟩
 dsimp only [CV]
 go_wp2_with fail
 refine(HE.out _).mono ?_
 rintro e w3 ⟨rfl,g3⟩
 have g23:Ac _ w3:=(g2.alloc (.cells #[.string ⟨#[]⟩,.slice none 0 0,u64 0,.slice none 0 0,i64 0,.slice none 0 0,.slice none 0 0] 92)).trans g3
 have HB:=zh (H0.out.2.2.1.grew g23)
 have t6:=HB.out.setRow #[i64 f,.string ⟨#[]⟩,.slice none 0 0,.slice none 0 0,.slice none 0 0]
 obtain⟨r0,r1,r2,r3,r4⟩:=LF t6
 have HF:Hid (Au (w3.setRow T #[i64 f,.string ⟨#[]⟩,.slice none 0 0,.slice none 0 0,.slice none 0 0]) X Y B hops settles ph N es hx/\Kept (λ j=>j=X) w (w3.setRow T #[i64 f,.string ⟨#[]⟩,.slice none 0 0,.slice none 0 0,.slice none 0 0])) :=
  ⟨(H0.out.1.grew g23).far ((zr (λ j=>j=T) _).setRow (.inl rfl) _) (A8 HB.out (by simp)),(H0.out.2.1.grew g23).setRow (.inr (by rw[HT.out];exact zl _)) _⟩
 clear t6 g3 g2 g23 HE H0 HR
 unfold Bx
 go_wp2_with (refine wpList_store_rowTo rfl 42 (.tmp 4) (.tmp 29) rfl rfl T #[i64 f,.string ⟨#[]⟩,.slice none 0 0,.slice none 0 0,.slice none 0 0] (by rfl) (by rfl) 42 _ HB.out (by kernel_rfl) rfl (AF (by simp[H_])) ?_)
 go_wp2_with fail
 exact zy (v:=Bx f) (by simp[results,E_,go_sem,r0,r1,r2,r3,r4,Bx]) rfl ⟨rfl,HF.out⟩
theorem FE {fq:Nat} (hcf:∀ (args:Array Value) (W:F_),(callFunc fq args).run A_ W=.ok (.enter fq args) W) (line nm:List UInt8) (C:F_->Cm->Prop) (R:F_->Value->Prop) (h:Au w X Y B hops settles ph N es hx) (DP:ph<=3)
  (hP:∀ W,G_ A_ 34 #[str line] W λ e W'=>∃ c:Cm,e=.returned (.tuple #[CV c,i64 0])/\c.nm=nm/\C W' c/\Ac W W')
  (hC:∀ W W' c,C W c->Ac W W'->C W' c)
  (hW:∀ W,G_ A_ 35 #[str nm] W λ e W'=>e=.returned (.func (.func fq) #[] #[])/\W=W')
  (hK:∀ W c,C W c->c.nm=nm->Au W X Y B hops settles ph N es hx->w.heap.size<=W.heap.size->G_ A_ fq #[pt X,CV c] W λ e W'=>∃ f LZ A n c1 A2 n2 c2,e=.returned (Co f LZ A n c1 A2 n2 c2)/\R W' (Co f LZ A n c1 A2 n2 c2)/\Kept (λ j=>j=Y) W W')
  (hR:∀ W W' v T cs,R W v->Kept (λ j=>j=T) W W'->Am W T 42 cs->R W' v) :
  G_ A_ 10 #[pt X,str line] w λ e w'=>∃ f LZ A n c1 A2 n2 c2,e=.returned (Co f LZ A n c1 A2 n2 c2)/\R w' (Co f LZ A n c1 A2 n2 c2)/\Kept (λ j=>j=X\/j=Y) w w':=by
 obtain⟨T,hT⟩:=zn (w.heap.size)
 have hXT:X<T/\Y<T:=by rw[<- hT];exact h.lt
 obtain⟨left,done,jJ,oY⟩:=h.did (.cells #[i64 0,.string ⟨#[]⟩,.slice none 0 0,.slice none 0 0,.slice none 0 0] 42)
 obtain⟨w0,Oe,g0,b0⟩:=zb w #[i64 0,.string ⟨#[]⟩,.slice none 0 0,.slice none 0 0,.slice none 0 0] 42 hT
 rw[Oe]at jJ oY
 have x2:=Am.cell jJ 2
 have f2:=Am.frozen jJ 2
 simp at x2
 obtain⟨w1,AQ⟩:=zn (w0.setCell ⟨X,2,none⟩ (i64 (wrap64 (done+1))))
 rw[AQ]at oY
 have k1:Kept (λ j=>j=X) w w1:=by rw[<- AQ];exact(Ac.kept (F:=λ j=>j=X) g0).setCell (p:=⟨X,2,none⟩) (.inl rfl) _
 have b1:Am w1 T 42 #[i64 0,.string ⟨#[]⟩,.slice none 0 0,.slice none 0 0,.slice none 0 0]:=by rw[<- AQ];exact b0.far (p:=⟨X,2,none⟩) (by show T≠X;omega) _
 have HP:=zh (oY.elim λ l h=>h.elim λ d h=>h.2.1.elim λ Ak h'=>h'.elim λ ck h'=>h'.elim λ ev h'=>h'.elim λ hv h'=>h'.elim λ c0 h'=>h'.elim λ c1 h'=>h'.elim λ c2 h'=>Jj (ph:Int) h.1 h'.blk)
 have H0:=DS oY k1 b1 hXT
 have HPa:=zh hP
 have HW:=zh hW
 have HRR:=zh hR
 have HCC:=zh hC
 have HKK:=zh hK
 have HT:=zh hT
 have p4:((ph:Int)==4)=false:=by simp;omega
 clear oY b0 g0 k1 b1 jJ hR DP hP hW hC hK
 go_enter Tryz.func10,Tryz.ntmps10
 go_upto_region 4 with fail
 have e0:w.alloc (.cells #[.int .i64 0,.string ⟨#[]⟩,.slice none 0 0,.slice none 0 0,.slice none 0 0] 42)=w0:=Oe
 have e1:w0.setCell ⟨X,2,none⟩ (.int .i64 (wrap64 (done+1)))=w1:=AQ
 try rw [e0]
 try rw [e1]
 try rw [hT]
 clear e0 e1 Oe AQ hT x2 f2
 go_wp2_with fail
 refine HP.out.mono ?_
 rintro e w9 ⟨rfl,rfl⟩
 clear HP
 go_wp2_with fail
 refine(HPa.out _).mono ?_
 rintro e w2 ⟨c,rfl,jv,hc,g2⟩
 dsimp only [CV]
 have HN:=zh jv
 obtain⟨w3,Dj,g3,b3⟩:=zb w2 #[str c.nm,.slice c.ai c.ni c.ci,u64 c.wv,.slice c.aq c.nq c.cq,i64 c.gn,.slice c.ag c.ng c.cg,.slice c.ar c.nr c.cr] 92 rfl
 have xn:=zh (g2.trans g3)
 have HT3:=zh (H0.out.2.2.1.grew xn.out)
 have Df:w.heap.size<=w3.heap.size:=Nat.le_trans H0.out.2.1.size xn.out.size
 have hYc:¬ w2.heap.size=Y:=by
  have q1:=H0.out.2.2.2;have q2:=g2.size;have q3:=H0.out.2.2.1.lt;omega
 have HC:Hid (∀ W',Kept (λ j=>j=Y) w3 W'->W'.cell? ⟨w2.heap.size,0,none⟩=some (str c.nm)/\W'.cell? ⟨w2.heap.size,1,none⟩=some (.slice c.ai c.ni c.ci)/\W'.cell? ⟨w2.heap.size,2,none⟩=some (u64 c.wv)/\W'.cell? ⟨w2.heap.size,3,none⟩=some (.slice c.aq c.nq c.cq)/\W'.cell? ⟨w2.heap.size,4,none⟩=some (i64 c.gn)/\W'.cell? ⟨w2.heap.size,5,none⟩=some (.slice c.ag c.ng c.cg)/\W'.cell? ⟨w2.heap.size,6,none⟩=some (.slice c.ar c.nr c.cr)):=λ W' k=>by
  have b:=b3.kept k hYc;obtain⟨p0,p1,p2,p3,p4,p5,p6⟩:=zk7 b;exact⟨p0,p1,p2,p3,p4,p5,p6⟩
 have HK:=zh (λ W (k:Ac w3 W)=>HKK.out W c (HCC.out _ _ _ hc (g3.trans k)) jv (H0.out.1.grew (xn.out.trans k)) (Nat.le_trans Df k.size))
 have HW:=zh (λ W=>(by rw[jv];exact HW.out W:G_ A_ 35 #[str c.nm] W _))
 have gz:Kept (λ j=>j=Y) w3 w3.drew:=(zr _ _).drew
 have LO:Ac w3 w3.drew:=(zr _ _).drew
 clear jv hc g2 g3 b3 Df HPa HKK HCC hYc
 go_upto_region 9 with fail
 have e3:w2.alloc (.cells #[.string (bs c.nm),.slice c.ai c.ni c.ci,.int .u64 c.wv,.slice c.aq c.nq c.cq,.int .i64 c.gn,.slice c.ag c.ng c.cg,.slice c.ar c.nr c.cr] 92)=w3:=Dj
 try rw [e3]
 clear e3 Dj
 refine rG [6] (λ j=>j=Y) ?_
 refine pG 0 30 ?_
 refine tF 1 31 HC.out gz ?_
 refine pG 3 33 ?_
 refine tF 4 34 HC.out gz ?_
 refine sG 2 32 (λ K Aj=>?_)
 go_simp
 refine(HW.out _).mono ?_
 rintro e y1 ⟨rfl,rfl⟩
 refine Aj (.func (.func fq) #[] #[]) _ (λ _=>(zr _ _)) ?_
 clear Aj
 simp only[sA]
 refine sG 5 35 (λ K Aj=>?_)
 go_simp
 refine(HK.out _ (by exact LO)).mono ?_
 rintro e y2 ⟨f,LZ,A,n,c1,A2,n2,c2,rfl,hv,k2⟩
 refine Aj (.agg #[i64 f,str LZ,.slice A n c1,.slice A2 n2 c2,.slice none 0 0]) _ (λ _=>k2) ?_
 clear Aj
 simp only[sA]
 refine DH 6 (λ K Aj=>?_)
 have HL:=DK hv k2 (HT3.out.kept (F:=λ j=>j=Y) (gz.trans k2) (by have:=H0.out.2.2.2;omega))
 clear hv k2
 have HB:=zh HL.out.2.2
 refine wp_store_row 42 (.tmp 4) (.tmp 35) rfl T #[i64 f,str LZ,.slice A n c1,.slice A2 n2 c2,.slice none 0 0] rfl rfl 42 _ HB.out (by kernel_rfl) rfl (AF (by simp[H_])) ?_
 refine Aj _ (λ h=>absurd (by simp) h) ?_
 clear Aj
 refine dG ?_
 have t6:=HB.out.setRow #[i64 f,str LZ,.slice A n c1,.slice A2 n2 c2,.slice none 0 0]
 obtain⟨r0,r1,r2,r3,r4⟩:=LF t6
 have HF:Hid (R (y2.setRow T #[i64 f,str LZ,.slice A n c1,.slice A2 n2 c2,.slice none 0 0]) (Co f LZ A n c1 A2 n2 c2)/\Kept (λ j=>j=X\/j=Y) w (y2.setRow T #[i64 f,str LZ,.slice A n c1,.slice A2 n2 c2,.slice none 0 0])):=⟨HRR.out _ _ _ _ _ HL.out.1 ((zr (λ j=>j=T) _).setRow (.inl rfl) _) HB.out,((H0.out.2.1.mono (λ j _ hj=>.inl hj)).trans (((Ac.kept xn.out).trans gz).trans HL.out.2.1 |>.mono (λ j _ hj=>.inr hj))).setRow (.inr (by rw[HT.out];exact zl _)) _⟩
 clear t6
 go_wp2_with fail
 exact zy (v:=Co f LZ A n c1 A2 n2 c2) (by simp[results,E_,go_sem,r0,r1,r2,r3,r4]) rfl ⟨_,_,_,_,_,_,_,_,rfl,HF.out⟩
end
section
variable {w:F_} {X Y B:Nat} {hops settles:Int} {ph N:Nat} {es:List AB} {hx:Option Hx}
theorem bj (c:Cm) (h:Au w X Y B hops settles ph N es hx) (DP:1<=ph/\ph<=3) (hr:Aq N es=0) (hl:es.length<=800) (hN:N<=12) (hB:B<=w.heap.size) (CB:List Int) (hR:RowI w c.ar CB) (Ba:Bq CB) (GM:CB.length=c.nr) (hn:c.nr=0\/c.nr=N) :
  G_ A_ 58 #[pt X,CV c] w λ e w'=>∃ g x,e=.returned (Co 0 c.nm (some ⟨g,0,none⟩) 1 1 none 0 0)/\Am w' g 29 #[u64 (N:Int)]/\Au w' X Y B hops settles 2 N es (some x)/\x.es=es/\(Ix CB hx=x.rk\/Ix CB hx=[])/\Kept (λ j=>j=Y) w w':=by
 have h0:=zh h
 obtain⟨nm,ai,ni,ci,wv,aq,nq,cq,gn,ag,ng,cg,ar,nr,cr⟩:=c
 dsimp only at *
 obtain⟨w1,AQ,g1,b1⟩:=zb w #[str nm,.slice ai ni ci,u64 wv,.slice aq nq cq,i64 gn,.slice ag ng cg,.slice ar nr cr] 92 rfl
 obtain⟨w2,BM,g2,b2⟩:=zb w1 #[i64 0,.string ⟨#[]⟩,.slice none 0 0,.slice none 0 0,.slice none 0 0] 42 rfl
 obtain⟨T,hT⟩:=zn (w1.heap.size)
 rw[hT]at b2
 have h2:=h.grew (g1.trans g2)
 have AH:=h.lt
 have HC:Hid (∀ W',Kept (λ j=>j=Y) w2 W'->W'.cell? ⟨X,0,none⟩=some (pt Y)/\W'.cell? ⟨w.heap.size,0,none⟩=some (str nm)/\W'.cell? ⟨w.heap.size,1,none⟩=some (.slice ai ni ci)/\W'.cell? ⟨w.heap.size,2,none⟩=some (u64 wv)/\W'.cell? ⟨w.heap.size,3,none⟩=some (.slice aq nq cq)/\W'.cell? ⟨w.heap.size,4,none⟩=some (i64 gn)/\W'.cell? ⟨w.heap.size,5,none⟩=some (.slice ag ng cg)/\W'.cell? ⟨w.heap.size,6,none⟩=some (.slice ar nr cr)):=λ W' k=>by
  have hn:¬ (w.heap.size=Y):=(by omega);have b:=(b1.grew g2).kept k hn;obtain⟨left,done,q1,_,q3⟩:=h2;have q:=Am.kept q1 k (show ¬ X=Y from q3.1);have p0:=b.cell 0;have p1:=b.cell 1;have p2:=b.cell 2;have p3:=b.cell 3;have p4:=b.cell 4;have p5:=b.cell 5;have p6:=b.cell 6;have p7:=q.cell 0;simp at p0 p1 p2 p3 p4 p5 p6 p7;exact⟨p7,p0,p1,p2,p3,p4,p5,p6⟩
 have HS:=zh h2
 have HZ:=DS (g1.trans g2) b2 ((by rw[<- hT];exact g1.size:w.heap.size<=T)) AH
 have gz:Kept (λ j=>j=Y) w2 w2.drew:=(zr _ _).drew
 have fh:Hid (∀ W,Ac w2 W->G_ A_ 95 #[pt Y,.slice ar nr cr] W λ e w'=>e=.returned (i64 0)/\(∃ x,BN w' Y B hops settles 2 N es (some x)/\x.es=es/\(Ix CB hx=x.rk\/Ix CB hx=[]))/\Kept (λ j=>j=Y) W w'):=λ W k=>by
  have hs:BN W Y B hops settles ph N es hx:=h2.elim λ _ h=>h.elim λ _ h=>h.2.1.grew k;have hB':B<=W.heap.size:=Nat.le_trans hB ((g1.trans g2).trans k).size;rcases hn with hn | hn
  ·exact NQ ph N es hx hs DP hr hl hN hB' CB (RowI.grew hR ((g1.trans g2).trans k)) Ba GM hn
  ·exact L7 ph N es hx hs DP hr hl hN hB' CB (RowI.grew hR ((g1.trans g2).trans k)) Ba GM hn
 have jK:IntKind.u64.wrap (N:Int)=(N:Int):=wrapN N (by omega)
 have uV:=zh hl
 clear h hr hl hB DP h2 AH g1 g2 b1 b2 hn hR Ba GM hN
 go_enter Tryz.func58,Tryz.ntmps58
 go_upto_region 1 with fail
 have e2:(w1.alloc (.cells #[.int .i64 0,.string ⟨#[]⟩,.slice none 0 0,.slice none 0 0,.slice none 0 0] 42))=w2:=BM
 try rw [e2]
 try rw [hT]
 have LO:Ac w2 w2.drew:=(zr _ _).drew
 clear e2 BM hT
 refine rG [] (λ j=>j=Y) ?_
 refine pG 0 8 ?_
 refine pG 1 9 ?_
 refine pG 2 10 ?_
 refine tF 3 11 HC.out gz ?_
 refine pG 4 12 ?_
 refine tF 5 13 HC.out gz ?_
 refine sG 6 14 (λ K Aj=>?_)
 go_simp
 refine(fh.out _ LO).mono ?_
 rintro e y1 ⟨rfl,⟨x,hs,Iw,LC⟩,k1⟩
 refine Aj (i64 0) _ (λ _=>k1) ?_
 clear Aj
 simp only[sA]
 refine pG 7 5 ?_
 refine dG ?_
 skip
 have kk:=gz.trans k1
 have xo:=zh (be 2 N es (some x) hs (by omega) uV.out)
 have H1:=DS hs kk Iw LC
 obtain⟨q7,q0,q1,q2,q3,q4,q5,q6⟩:=HC.out y1 kk
 clear hs k1 kk Iw LC fh gz LO
 go_wp2_with fail
 refine xo.out.mono ?_
 rintro e y2 ⟨v,rfl,ho,k2⟩
 obtain⟨A2,c2,rfl⟩:=Ap ho
 obtain⟨y3,DQ⟩:=zn (Pa y2 (.cells #[i64 N,.slice A2 es.length c2] 24))
 have k3:Ac y2 y3:=by rw[<- DQ];exact Ha _ _ _
 have b3:Am y3 (Pb y2).size 24 #[i64 N,.slice A2 es.length c2]:=by rw[<- DQ];exact zv _ _ _
 obtain⟨y4,Fs⟩:=zn (Pa y3 (.cells #[u64 (N:Int)] 29))
 have k4:Ac y3 y4:=by rw[<- Fs];exact Ha _ _ _
 have bv:Am y4 (Pb y3).size 29 #[u64 (N:Int)]:=by rw[<- Fs];exact zv _ _ _
 obtain⟨g,hg⟩:=zn ((Pb y3).size)
 rw[hg]at bv
 have z0:=b3.cell 0
 simp at z0
 have kk2:Kept (λ j=>j=Y) w2 y4:=H1.out.2.1.grew ((k2.trans k3).trans k4)
 obtain⟨q7,q0,q1,q2,q3,q4,q5,q6⟩:=HC.out y3 (H1.out.2.1.grew (k2.trans k3))
 have HT:=zh (F5 ⟨nm,ai,ni,ci,wv,aq,nq,cq,gn,ag,ng,cg,ar,nr,cr⟩ (some ⟨g,0,none⟩) 1 1 y4)
 have H4:=DK kk2 ((H1.out.1.grew ((k2.trans k3).trans k4):BN y4 Y B hops settles 2 N es (some x))) bv
 clear k2 k3 k4 b3 bv kk2 ho xo
 go_wp2_with fail
 have e3:Pa y2 (.cells #[.int .i64 N,.slice A2 es.length c2] 24)=y3:=DQ
 have e4:Pa y3 (.cells #[.int .u64 (N:Int)] 29)=y4:=Fs
 try rw [e3]
 try rw [e4]
 try rw [hg]
 clear e3 e4 DQ Fs hg
 refine HT.out.mono ?_
 rintro e y5 ⟨rfl,k5⟩
 have pr:Kept (λ j=>j=Y) w2 y5:=H4.out.1.grew k5
 have HL:Hid (Kept (λ j=>j=Y) w2 y5/\(BN y5 Y B hops settles 2 N es (some x)/\Am y5 g 29 #[u64 (N:Int)])/\Am y5 T 42 #[i64 0,.string ⟨#[]⟩,.slice none 0 0,.slice none 0 0,.slice none 0 0]):=⟨pr,⟨H4.out.2.1.grew k5,H4.out.2.2.grew k5⟩,HZ.out.2.1.kept pr (show ¬ T=Y by have:=HZ.out.2.2;omega)⟩
 have HB:=zh HL.out.2.2
 have t6:=HB.out.setRow #[i64 0,str nm,.slice (some ⟨g,0,none⟩) 1 1,.slice none 0 0,.slice none 0 0]
 obtain⟨r0,r1,r2,r3,r4⟩:=LF t6
 have kT:Kept (λ j=>j=T) y5 (O_ y5 T #[i64 0,str nm,.slice (some ⟨g,0,none⟩) 1 1,.slice none 0 0,.slice none 0 0]):=(zr (λ j=>j=T) _).setRow (.inl rfl) _
 have ap:=A8 HB.out (by simp)
 have kF:Kept (λ j=>j=Y) w (O_ y5 T #[i64 0,str nm,.slice (some ⟨g,0,none⟩) 1 1,.slice none 0 0,.slice none 0 0]):=((Ac.kept HZ.out.1).trans HL.out.1).setRow (.inr HZ.out.2.2.1) _
 have HF:Hid (Am (O_ y5 T #[i64 0,str nm,.slice (some ⟨g,0,none⟩) 1 1,.slice none 0 0,.slice none 0 0]) g 29 #[u64 (N:Int)]/\Au (O_ y5 T #[i64 0,str nm,.slice (some ⟨g,0,none⟩) 1 1,.slice none 0 0,.slice none 0 0]) X Y B hops settles 2 N es (some x)/\x.es=es/\(Ix CB hx=x.rk\/Ix CB hx=[])/\Kept (λ j=>j=Y) w (O_ y5 T #[i64 0,str nm,.slice (some ⟨g,0,none⟩) 1 1,.slice none 0 0,.slice none 0 0])):=⟨HL.out.2.1.2.kept kT (Am.ne HL.out.2.1.2 HB.out (by simp)),Au.turn h0.out kF (HL.out.2.1.1.far kT ap),H1.out.2.2.1,H1.out.2.2.2,kF⟩
 clear t6 kT ap kF pr k5 HT H4 H1 z0
 go_wp2_with (refine wpList_store_rowTo rfl 42 (.tmp 4) (.tmp 29) rfl rfl T #[i64 0,str nm,.slice (some ⟨g,0,none⟩) 1 1,.slice none 0 0,.slice none 0 0] (by rfl) (by rfl) 42 _ HB.out (by kernel_rfl) rfl (AF (by simp[H_])) ?_)
 go_wp2_with fail
 exact zy (v:=.agg #[i64 0,str nm,.slice (some ⟨g,0,none⟩) 1 1,.slice none 0 0,.slice none 0 0]) (by simp[results,Tryz.results58,go_sem,r0,r1,r2,r3,r4]) rfl ⟨g,x,rfl,HF.out⟩
end
theorem NS {w:F_} {X Y B:Nat} {hops settles:Int} {ph N:Nat} {es:List AB} {hx:Option Hx} (c:Cm) (h:Au w X Y B hops settles ph N es hx) (DP:ph<=4) (hn:ph≠2) (f:Nat) (hf:(Ft ph 2:Int)=f) (Ho:1<=f/\f<15) :
  G_ A_ 63 #[pt X,CV c] w λ r w'=>r=.returned (Bx f)/\Au w' X Y B hops settles ph N es hx/\Ac w w':=by
 have h0:=zh h
 obtain⟨nm,ai,ni,ci,wv,aq,nq,cq,gn,ag,ng,cg,ar,nr,cr⟩:=c
 obtain⟨w1,AQ,g1⟩:=zg w (.cells #[str nm,.slice ai ni ci,u64 wv,.slice aq nq cq,i64 gn,.slice ag ng cg,.slice ar nr cr] 92)
 obtain⟨w2,BM,g2,b2⟩:=zb w1 #[i64 0,.string ⟨#[]⟩,.slice none 0 0,.slice none 0 0,.slice none 0 0] 42 rfl
 obtain⟨T,hT⟩:=zn (w1.heap.size)
 rw[hT]at b2
 have h2:=h.grew (g1.trans g2)
 have Of:w.heap.size<=T:=by rw[<- hT];exact g1.size
 have x0:w2.cell? ⟨X,0,none⟩=some (pt Y):=by
  obtain⟨left,done,q1,_,q3⟩:=h2;have p:=Am.cell q1 0;simp at p;exact p
 have HH:Hid (G_ A_ 31 #[pt Y] w2 λ e w'=>e=.returned (.tuple #[.pointer none,i64 f])/\Ac w2 w'):=by
  obtain⟨left,done,q1,q2,q3⟩:=h2;obtain⟨Ak,ck,ev,hv,c0,c1,c2,q⟩:=q2;have:=IX ph DP hn q.blk;rw[hf]at this;exact this
 have HE:=zh (λ W=>D7 f Ho W)
 have HS:=DS h2 b2 (g1.trans g2) Of
 have nz:((f:Int) != 0)=true:=by simp;omega
 clear h h2 b2 g1 g2 hf Of
 go_enter Tryz.func63,Tryz.ntmps63
 go_wp2_with fail
 refine HH.out.mono ?_
 rintro e w3 ⟨rfl,g3⟩
 clear HH x0 AQ BM hT
 go_wp2_with fail
 refine(HE.out _).mono ?_
 rintro e w4 ⟨rfl,g4⟩
 have FF:=zh (g3.trans g4)
 have HB:=zh (HS.out.2.1.grew FF.out)
 have t6:=HB.out.setRow #[i64 f,.string ⟨#[]⟩,.slice none 0 0,.slice none 0 0,.slice none 0 0]
 obtain⟨r0,r1,r2,r3,r4⟩:=LF t6
 have HF:Hid (Au (w4.setRow T #[i64 f,.string ⟨#[]⟩,.slice none 0 0,.slice none 0 0,.slice none 0 0]) X Y B hops settles ph N es hx/\Ac w (w4.setRow T #[i64 f,.string ⟨#[]⟩,.slice none 0 0,.slice none 0 0,.slice none 0 0])) :=
  ⟨(HS.out.1.grew FF.out).far ((zr (λ j=>j=T) _).setRow (.inl rfl) _) (A8 HB.out (by simp)),(HS.out.2.2.1.trans FF.out).setRow (.inr HS.out.2.2.2) _⟩
 clear t6 g4 HE
 unfold Bx
 go_wp2_with (refine wpList_store_rowTo rfl 42 (.tmp 4) (.tmp 19) rfl rfl T #[i64 f,.string ⟨#[]⟩,.slice none 0 0,.slice none 0 0,.slice none 0 0] (by rfl) (by rfl) 42 _ HB.out (by kernel_rfl) rfl (AF (by simp[H_])) ?_)
 go_wp2_with fail
 exact zy (v:=Bx f) (by simp[results,Tryz.results63,go_sem,r0,r1,r2,r3,r4,Bx]) rfl ⟨rfl,HF.out⟩
theorem bl {w:F_} {X Y B:Nat} {hops settles:Int} {ph N:Nat} {es:List AB} {hx:Option Hx} (c:Cm) (h:Au w X Y B hops settles ph N es hx) (DP:ph<=4) (hn:ph≠2) (f:Nat) (hf:(Ft ph 2:Int)=f) (Ho:1<=f/\f<15) :
  G_ A_ 64 #[pt X,CV c] w λ r w'=>r=.returned (Bx f)/\Au w' X Y B hops settles ph N es hx/\Ac w w':=by
 have h0:=zh h
 obtain⟨nm,ai,ni,ci,wv,aq,nq,cq,gn,ag,ng,cg,ar,nr,cr⟩:=c
 obtain⟨w1,AQ,g1⟩:=zg w (.cells #[str nm,.slice ai ni ci,u64 wv,.slice aq nq cq,i64 gn,.slice ag ng cg,.slice ar nr cr] 92)
 obtain⟨w2,BM,g2,b2⟩:=zb w1 #[i64 0,.string ⟨#[]⟩,.slice none 0 0,.slice none 0 0,.slice none 0 0] 42 rfl
 obtain⟨T,hT⟩:=zn (w1.heap.size)
 rw[hT]at b2
 have h2:=h.grew (g1.trans g2)
 have Of:w.heap.size<=T:=by rw[<- hT];exact g1.size
 have x0:w2.cell? ⟨X,0,none⟩=some (pt Y):=by
  obtain⟨left,done,q1,_,q3⟩:=h2;have p:=Am.cell q1 0;simp at p;exact p
 have HH:Hid (G_ A_ 31 #[pt Y] w2 λ e w'=>e=.returned (.tuple #[.pointer none,i64 f])/\Ac w2 w'):=by
  obtain⟨left,done,q1,q2,q3⟩:=h2;obtain⟨Ak,ck,ev,hv,c0,c1,c2,q⟩:=q2;have:=IX ph DP hn q.blk;rw[hf]at this;exact this
 have HE:=zh (λ W=>D7 f Ho W)
 have HS:=DS h2 b2 (g1.trans g2) Of
 have nz:((f:Int) != 0)=true:=by simp;omega
 clear h h2 b2 g1 g2 hf Of
 go_enter Tryz.func64,Tryz.ntmps64
 go_wp2_with fail
 refine HH.out.mono ?_
 rintro e w3 ⟨rfl,g3⟩
 clear HH x0 AQ BM hT
 go_wp2_with fail
 refine(HE.out _).mono ?_
 rintro e w4 ⟨rfl,g4⟩
 have FF:=zh (g3.trans g4)
 have HB:=zh (HS.out.2.1.grew FF.out)
 have t6:=HB.out.setRow #[i64 f,.string ⟨#[]⟩,.slice none 0 0,.slice none 0 0,.slice none 0 0]
 obtain⟨r0,r1,r2,r3,r4⟩:=LF t6
 have HF:Hid (Au (w4.setRow T #[i64 f,.string ⟨#[]⟩,.slice none 0 0,.slice none 0 0,.slice none 0 0]) X Y B hops settles ph N es hx/\Ac w (w4.setRow T #[i64 f,.string ⟨#[]⟩,.slice none 0 0,.slice none 0 0,.slice none 0 0])) :=
  ⟨(HS.out.1.grew FF.out).far ((zr (λ j=>j=T) _).setRow (.inl rfl) _) (A8 HB.out (by simp)),(HS.out.2.2.1.trans FF.out).setRow (.inr HS.out.2.2.2) _⟩
 clear t6 g4 HE
 unfold Bx
 go_wp2_with (refine wpList_store_rowTo rfl 42 (.tmp 4) (.tmp 19) rfl rfl T #[i64 f,.string ⟨#[]⟩,.slice none 0 0,.slice none 0 0,.slice none 0 0] (by rfl) (by rfl) 42 _ HB.out (by kernel_rfl) rfl (AF (by simp[H_])) ?_)
 go_wp2_with fail
 exact zy (v:=Bx f) (by simp[results,Tryz.results64,go_sem,r0,r1,r2,r3,r4,Bx]) rfl ⟨rfl,HF.out⟩
theorem L8 {w:F_} {X Y B:Nat} {hops settles:Int} {ph N:Nat} {es:List AB} {hx:Option Hx} (c:Cm) (h:Au w X Y B hops settles ph N es hx) (DP:ph<=4) (hn:ph≠2) (f:Nat) (hf:(Ft ph 2:Int)=f) (Ho:1<=f/\f<15) :
  G_ A_ 62 #[pt X,CV c] w λ r w'=>r=.returned (Bx f)/\Au w' X Y B hops settles ph N es hx/\Ac w w':=by
 have h0:=zh h
 obtain⟨nm,ai,ni,ci,wv,aq,nq,cq,gn,ag,ng,cg,ar,nr,cr⟩:=c
 obtain⟨w1,AQ,g1⟩:=zg w (.cells #[str nm,.slice ai ni ci,u64 wv,.slice aq nq cq,i64 gn,.slice ag ng cg,.slice ar nr cr] 92)
 obtain⟨w2,BM,g2,b2⟩:=zb w1 #[i64 0,.string ⟨#[]⟩,.slice none 0 0,.slice none 0 0,.slice none 0 0] 42 rfl
 obtain⟨T,hT⟩:=zn (w1.heap.size)
 rw[hT]at b2
 have h2:=h.grew (g1.trans g2)
 have Of:w.heap.size<=T:=by rw[<- hT];exact g1.size
 have x0:w2.cell? ⟨X,0,none⟩=some (pt Y):=by
  obtain⟨left,done,q1,_,q3⟩:=h2;have p:=Am.cell q1 0;simp at p;exact p
 have HH:Hid (G_ A_ 31 #[pt Y] w2 λ e w'=>e=.returned (.tuple #[.pointer none,i64 f])/\Ac w2 w'):=by
  obtain⟨left,done,q1,q2,q3⟩:=h2;obtain⟨Ak,ck,ev,hv,c0,c1,c2,q⟩:=q2;have:=IX ph DP hn q.blk;rw[hf]at this;exact this
 have HE:=zh (λ W=>D7 f Ho W)
 have HS:=DS h2 b2 (g1.trans g2) Of
 have nz:((f:Int) != 0)=true:=by simp;omega
 clear h h2 b2 g1 g2 hf Of
 go_enter Tryz.func62,Tryz.ntmps62
 go_wp2_with fail
 refine HH.out.mono ?_
 rintro e w3 ⟨rfl,g3⟩
 clear HH x0 AQ BM hT
 go_wp2_with fail
 refine(HE.out _).mono ?_
 rintro e w4 ⟨rfl,g4⟩
 have FF:=zh (g3.trans g4)
 have HB:=zh (HS.out.2.1.grew FF.out)
 have t6:=HB.out.setRow #[i64 f,.string ⟨#[]⟩,.slice none 0 0,.slice none 0 0,.slice none 0 0]
 obtain⟨r0,r1,r2,r3,r4⟩:=LF t6
 have HF:Hid (Au (w4.setRow T #[i64 f,.string ⟨#[]⟩,.slice none 0 0,.slice none 0 0,.slice none 0 0]) X Y B hops settles ph N es hx/\Ac w (w4.setRow T #[i64 f,.string ⟨#[]⟩,.slice none 0 0,.slice none 0 0,.slice none 0 0])) :=
  ⟨(HS.out.1.grew FF.out).far ((zr (λ j=>j=T) _).setRow (.inl rfl) _) (A8 HB.out (by simp)),(HS.out.2.2.1.trans FF.out).setRow (.inr HS.out.2.2.2) _⟩
 clear t6 g4 HE
 unfold Bx
 go_wp2_with (refine wpList_store_rowTo rfl 42 (.tmp 4) (.tmp 19) rfl rfl T #[i64 f,.string ⟨#[]⟩,.slice none 0 0,.slice none 0 0,.slice none 0 0] (by rfl) (by rfl) 42 _ HB.out (by kernel_rfl) rfl (AF (by simp[H_])) ?_)
 go_wp2_with fail
 exact zy (v:=Bx f) (by simp[results,Tryz.results62,go_sem,r0,r1,r2,r3,r4,Bx]) rfl ⟨rfl,HF.out⟩
theorem DJ {w:F_} {X Y B:Nat} {hops settles:Int} {ph N:Nat} {es:List AB} {hx:Option Hx} (c:Cm) (h:Au w X Y B hops settles ph N es hx) (DP:ph<=4) (hn:ph≠2) (f:Nat) (hf:(Ft ph 2:Int)=f) (Ho:1<=f/\f<15) :
  G_ A_ 65 #[pt X,CV c] w λ r w'=>r=.returned (Bx f)/\Au w' X Y B hops settles ph N es hx/\Ac w w':=by
 have h0:=zh h
 obtain⟨nm,ai,ni,ci,wv,aq,nq,cq,gn,ag,ng,cg,ar,nr,cr⟩:=c
 obtain⟨w1,AQ,g1⟩:=zg w (.cells #[str nm,.slice ai ni ci,u64 wv,.slice aq nq cq,i64 gn,.slice ag ng cg,.slice ar nr cr] 92)
 obtain⟨w2,BM,g2,b2⟩:=zb w1 #[i64 0,.string ⟨#[]⟩,.slice none 0 0,.slice none 0 0,.slice none 0 0] 42 rfl
 obtain⟨T,hT⟩:=zn (w1.heap.size)
 rw[hT]at b2
 have h2:=h.grew (g1.trans g2)
 have Of:w.heap.size<=T:=by rw[<- hT];exact g1.size
 have x0:w2.cell? ⟨X,0,none⟩=some (pt Y):=by
  obtain⟨left,done,q1,_,q3⟩:=h2;have p:=Am.cell q1 0;simp at p;exact p
 have HH:Hid (G_ A_ 49 #[pt Y] w2 λ e w'=>e=.returned (i64 f)/\w2=w'):=by
  obtain⟨left,done,q1,q2,q3⟩:=h2;obtain⟨Ak,ck,ev,hv,c0,c1,c2,q⟩:=q2;have:=IU ph DP q.blk;rw[hf]at this;exact this
 have HE:=zh (λ W=>D7 f Ho W)
 have HS:=DS h2 b2 (g1.trans g2) Of
 have nz:((f:Int) != 0)=true:=by simp;omega
 clear h h2 b2 g1 g2 hf Of
 go_enter Tryz.func65,Tryz.ntmps65
 go_wp2_with fail
 refine HH.out.mono ?_
 rintro e w3 ⟨rfl,g3⟩
 clear HH x0 AQ BM hT
 go_wp2_with fail
 refine(HE.out _).mono ?_
 rintro e w4 ⟨rfl,g4⟩
 have FF:=zh ((by rw[g3];exact g4:Ac w2 w4))
 have HB:=zh (HS.out.2.1.grew FF.out)
 have t6:=HB.out.setRow #[i64 f,.string ⟨#[]⟩,.slice none 0 0,.slice none 0 0,.slice none 0 0]
 obtain⟨r0,r1,r2,r3,r4⟩:=LF t6
 have HF:Hid (Au (w4.setRow T #[i64 f,.string ⟨#[]⟩,.slice none 0 0,.slice none 0 0,.slice none 0 0]) X Y B hops settles ph N es hx/\Ac w (w4.setRow T #[i64 f,.string ⟨#[]⟩,.slice none 0 0,.slice none 0 0,.slice none 0 0])) :=
  ⟨(HS.out.1.grew FF.out).far ((zr (λ j=>j=T) _).setRow (.inl rfl) _) (A8 HB.out (by simp)),(HS.out.2.2.1.trans FF.out).setRow (.inr HS.out.2.2.2) _⟩
 clear t6 g4 HE
 unfold Bx
 go_wp2_with (refine wpList_store_rowTo rfl 42 (.tmp 4) (.tmp 14) rfl rfl T #[i64 f,.string ⟨#[]⟩,.slice none 0 0,.slice none 0 0,.slice none 0 0] (by rfl) (by rfl) 42 _ HB.out (by kernel_rfl) rfl (AF (by simp[H_])) ?_)
 go_wp2_with fail
 exact zy (v:=Bx f) (by simp[results,Tryz.results65,go_sem,r0,r1,r2,r3,r4,Bx]) rfl ⟨rfl,HF.out⟩
abbrev zCm:Cm:=⟨[],none,0,0,0,none,0,0,0,none,0,0,none,0,0⟩
def JB (c:Cm) (f:Nat) (e:Ending):Prop:=(f=0/\e=.returned (.tuple #[CV c,i64 0]))\/(f≠0/\e=.returned (.tuple #[CV zCm,i64 f]))
def mJ (i:Nat) (tl:List (List UInt8)) (D:F_->Cm->Nat->Prop):Prop:=∀ (W:F_) (X:Nat) (A:Option Addr) (cap:Nat),D2 W X (Af i) (.slice none 0 0) [] 0 (.slice none 0 0) [] 0 (.slice none 0 0) (.slice none 0 0) 0->CU W A tl->tl.length<=cap->(∀ a,A=some a->a.block<X) ->
  G_ A_ 56 #[pt X,.slice A tl.length cap] W λ e W'=>e=.returned (.tuple #[])/\(∃ (c:Cm) (f:Nat),Am W' X 124 #[str c.nm,.slice c.ai c.ni c.ci,u64 c.wv,.slice c.aq c.nq c.cq,i64 c.gn,.slice c.ag c.ng c.cg,.slice c.ar c.nr c.cr,i64 f]/\D W' c f/\c.nm=Af i)/\Kept (λ j=>X<=j) W W'
theorem CU.tail {w:F_} {b off:Nat} {x:List UInt8} {tl:List (List UInt8)} (h:CU w (some ⟨b,off,none⟩) (x::tl)):CU w (some ⟨b,off+1,none⟩) tl:=λ i l hl=>by
 obtain⟨b',uv,hA,hb,hc⟩:=h (i+1) l (by simpa using hl);cases hA;exact⟨_,_,rfl,hb,by rw[show off+1+i=off+(i+1) by omega];exact hc⟩
theorem pM {w:F_} {B:Nat} {A:Option Addr} {n c:Nat} {zs:List (List UInt8)} (h:BD w B (.slice A n c) zs):zs.length<=c:=by
 rcases h.2 with ⟨hv,h0⟩ | ⟨g,cap,cur,hv,hb,hg,h3,_⟩
 ·omega
 ·cases hv;omega
theorem Ev {i:Nat} (hi:i<13):Cp (Af i)/\(∀ c∈Af i,c.toNat<97)/\Dk[i]? = some (Af i)/\(∀ j,j<i->Dk[j]? ≠ some (Af i))/\(Af i).length<=5:=by
 have h:∀ a:Fin 13,((Af a≠[]/\∀ c∈Af a,sgn c=true)/\(∀ c∈Af a,c.toNat<97)/\Dk[a.1]? = some (Af a)/\(∀ b:Fin 13,b.1<a.1->Dk[b.1]? ≠ some (Af a))/\(Af a).length<=5):=(by decide +kernel);obtain⟨h1,h2,h3,h4,h5⟩:=h ⟨i,hi⟩;exact⟨h1,h2,h3,λ j hj=>h4 ⟨j,by omega⟩ hj,h5⟩
theorem ES (i:Nat) (hi:i<13) (tl:List (List UInt8)) (D:F_->Cm->Nat->Prop) (Ba:∀ x∈tl,Cp x) (hlen:(At (Af i::tl)).length<=65536) (hn:tl.length<16384)
  (hR:mJ i tl D) (hD:∀ W W' c f T cs,D W c f->Kept (λ j=>j=T) W W'->Am W T 92 cs->D W' c f) (w:F_) :
  G_ A_ 34 #[str (At (Af i::tl))] w λ e w'=>∃ (c:Cm) (f:Nat),JB c f e/\c.nm=Af i/\D w' c f/\Ac w w':=by
 obtain⟨n1,n2,n3,n4,n5⟩:=Ev hi
 obtain⟨R,hRR⟩:=zn (w.heap.size)
 obtain⟨w1,AQ,g1,b1⟩:=zb w #[.string ⟨#[]⟩,.slice none 0 0,u64 0,.slice none 0 0,i64 0,.slice none 0 0,.slice none 0 0] 92 hRR
 obtain⟨nm,Cw⟩:=zn (Af i)
 rw[Cw]at n1 n2 n3 n4 n5 hlen ⊢
 have HW:=zh (lD (nm::tl) (λ x hx=>by rcases I_.1 hx with rfl | h;exact n1;exact Ba x h) hlen (by simp;omega) w1)
 have HU:=zh (λ W=>lC nm n2 (by omega) W)
 have HN:=zh ko
 have HI0:=BP n3 n4
 have HRR:=zh hR
 have xj:=zh hD
 have H0:=DK g1 b1 hRR
 have HNM:=zh Cw
 obtain⟨ln,oD⟩:=zn (At (nm::tl))
 rw[oD]at HW ⊢
 clear n1 n2 n3 n4 n5 Ba hlen hn hR hD g1 b1 Cw oD
 go_enter Tryz.func34,Tryz.ntmps34
 go_wp2_with fail
 have e1:w.alloc (.cells #[.string ⟨#[]⟩,.slice none 0 0,.int .u64 0,.slice none 0 0,.int .i64 0,.slice none 0 0,.slice none 0 0] 92)=w1:=AQ
 try rw [e1]
 try rw [hRR]
 clear e1 AQ hRR
 refine HW.out.mono ?_
 rintro e w2 ⟨v,rfl,ho,g2⟩
 obtain⟨Aw,cw,rfl,Kr⟩:=ho.row
 have Bg:=pM ho
 obtain⟨b,off,hA,hb,hc⟩:=Kr 0 nm rfl
 subst hA
 simp only[Nat.add_zero]at hc
 obtain⟨L,hL⟩:=zn (tl.length)
 have Mu:(nm::tl).length=L+1:=by simp[hL]
 rw[Mu]at Bg ⊢
 have l0:(0:Int)<((L+1:Nat):Int):=by omega
 have l1:((L+1:Nat):Int)<=(cw:Int):=by omega
 have l2:¬ ((L+1:Nat):Int)=0:=by omega
 have HT:=Gt Kr hb g2 hL Bg
 clear HW ho Kr hb g2 hL Mu Bg
 go_wp2_with fail
 refine(HU.out _).mono ?_
 rintro e w3 ⟨rfl,g3⟩
 have H3:=zh g3
 clear g3 HU
 obtain⟨w4,D6,g4,b4⟩:=zb w3 #[str nm,.slice none 0 0,u64 0,.slice none 0 0,i64 0,.slice none 0 0,.slice none 0 0,i64 0] 124 rfl
 obtain⟨X,hX⟩:=zn (w3.heap.size)
 rw[hX]at b4
 have HX0:Hid (∀ W',Ac w4 W'->W'.cell? ⟨X,0,none⟩=some (str nm)):=λ W' k=>by
  have:=(b4.grew k).cell 0;simpa using this
 have HZ:=DK g4 b4 hX
 clear g4 b4
 go_upto_region 7 with fail
 have e4:w3.alloc (.cells #[.string (bs nm),.slice none 0 0,.int .u64 0,.slice none 0 0,.int .i64 0,.slice none 0 0,.slice none 0 0,.int .i64 0] 124)=w4:=D6
 try rw [e4]
 try rw [hX]
 have gz:Ac w4 w4.drew:=(zr _ _).drew
 clear e4 D6 hX
 refine rG [] (λ _=>False) ?_
 refine pG 1 30 ?_
 refine pG 2 31 ?_
 refine pG 3 32 ?_
 refine pG 4 33 ?_
 refine tF 5 34 HX0.out gz ?_
 refine sG 0 29 (λ K Aj=>?_)
 go_simp
 refine(HN.out _).mono ?_
 rintro e y1 ⟨v2,rfl,Hv,k1⟩
 obtain⟨An,cn,rfl,hrn⟩:=Hv.row
 have HI:=zh (M7 An cn i Dk nm y1 hrn (by decide) HI0.out.1 HI0.out.2)
 rw[show Dk.length=13 from rfl]at HI
 refine Aj (.slice An 13 cn) _ (λ _=>k1) ?_
 clear Aj
 simp only[sA]
 refine sG 6 35 (λ K Aj=>?_)
 go_simp
 refine HI.out.mono ?_
 rintro e y9 ⟨rfl,rfl⟩
 refine Aj (.bool true) _ (λ _=>(zr _ _)) ?_
 clear Aj
 simp only[sA]
 refine pG 7 36 ?_
 refine dG ?_
 have HG1:=zh (gz.trans k1)
 clear k1 Hv hrn HI HI0 HN
 have kT:Ac w1 y1:=((HT.out.2.2.1.trans H3.out).trans HZ.out.1).trans HG1.out
 have hbX:b<X:=by
  have q1:=HT.out.2.1;have q2:=H3.out.size;have q3:=HZ.out.2.2;omega
 have JL:D2 y1 X nm (.slice none 0 0) [] 0 (.slice none 0 0) [] 0 (.slice none 0 0) (.slice none 0 0) 0:=⟨HZ.out.2.1.grew HG1.out,⟨rfl,.inl ⟨rfl,rfl⟩⟩,⟨rfl,.inl ⟨rfl,rfl⟩⟩⟩
 have Kr:CU y1 (some ⟨b,off,none⟩) (nm::tl):=HT.out.1.grew ((H3.out.trans HZ.out.1).trans HG1.out)
 have HQ:Hid (∀ A cap,(A=some ⟨b,off+1,none⟩\/tl=[]/\A=some ⟨b,off,none⟩)->L<=cap->G_ A_ 56 #[pt X,.slice A L cap] y1 λ e W'=>e=.returned (.tuple #[])/\(∃ (c:Cm) (f:Nat),Am W' X 124 #[str c.nm,.slice c.ai c.ni c.ci,u64 c.wv,.slice c.aq c.nq c.cq,i64 c.gn,.slice c.ag c.ng c.cg,.slice c.ar c.nr c.cr,i64 f]/\D W' c f/\c.nm=nm)/\Kept (λ j=>X<=j) y1 W'):=by
  intro A cap hA Bg;have hh:=HRR.out y1 X A cap (by rw[HNM.out];exact JL) (by rcases hA with rfl | ⟨h,rfl⟩;exact Kr.tail;subst h;exact λ i l hl=>by simp at hl) (by rw[HT.out.2.2.2.1];exact Bg) (by rintro a rfl;rcases hA with h | ⟨_,h⟩<;>cases h<;>exact hbX);rw[HT.out.2.2.2.1,HNM.out]at hh;exact hh
 have KT:=zh kT
 clear JL Kr kT HRR
 have xu:=zh (HQ.out (some ⟨b,off+1,none⟩) (cw-1) (.inl rfl) (by have:=HT.out.2.2.2.2;omega))
 have HQ0:Hid (cw=1->G_ A_ 56 #[pt X,.slice (some ⟨b,off,none⟩) L 0] y1 λ e W'=>e=.returned (.tuple #[])/\(∃ (c:Cm) (f:Nat),Am W' X 124 #[str c.nm,.slice c.ai c.ni c.ci,u64 c.wv,.slice c.aq c.nq c.cq,i64 c.gn,.slice c.ag c.ng c.cg,.slice c.ar c.nr c.cr,i64 f]/\D W' c f/\c.nm=nm)/\Kept (λ j=>X<=j) y1 W'):=λ h =>
  HQ.out (some ⟨b,off,none⟩) 0 (.inr ⟨List.eq_nil_of_length_eq_zero (by have h1:=HT.out.2.2.2.2;have h2:=HT.out.2.2.2.1;omega),rfl⟩) (by have:=HT.out.2.2.2.2;omega)
 clear HQ
 go_wp2_with fail
 ·refine(HQ0.out (by omega)).mono ?_;rintro e w5 ⟨rfl,⟨c,f,JG,hd5,jv⟩,k5⟩;clear xu HQ0;have pr:Ac w1 w5:=KT.out.then k5 (λ j hj hXj=>by
   have q1:=(HT.out.2.2.1.trans H3.out).size
   have q3:=HZ.out.2.2
   have hXj:X<=j:=hXj
   omega)
  have vH:=H0.out.2.1.grew pr;have x0:=JG.cell 0;have x1:=JG.cell 1;have x2:=JG.cell 2;have x3:=JG.cell 3;have x4:=JG.cell 4;have x5:=JG.cell 5;have x6:=JG.cell 6;have x7:=JG.cell 7;simp at x0 x1 x2 x3 x4 x5 x6 x7;have HE:=DK hd5 jv (H0.out.1.trans pr);have HB:=zh vH;clear JG hd5 jv k5 pr vH;by_cases hf:f=0
  ·subst hf;have t6:=HB.out.setRow #[str c.nm,.slice c.ai c.ni c.ci,u64 c.wv,.slice c.aq c.nq c.cq,i64 c.gn,.slice c.ag c.ng c.cg,.slice c.ar c.nr c.cr];obtain⟨r0,r1,r2,r3,r4,r5,r6⟩:=zk7 t6;have HF:Hid (c.nm=nm/\D (w5.setRow R #[str c.nm,.slice c.ai c.ni c.ci,u64 c.wv,.slice c.aq c.nq c.cq,i64 c.gn,.slice c.ag c.ng c.cg,.slice c.ar c.nr c.cr]) c 0/\Ac w (w5.setRow R #[str c.nm,.slice c.ai c.ni c.ci,u64 c.wv,.slice c.aq c.nq c.cq,i64 c.gn,.slice c.ag c.ng c.cg,.slice c.ar c.nr c.cr])):=⟨HE.out.2.1,xj.out _ _ _ _ _ _ HE.out.1 ((zr (λ j=>j=R) _).setRow (.inl rfl) _) HB.out,HE.out.2.2.setRow (.inr (by rw[H0.out.2.2];exact zl _)) _⟩;clear t6 HE;go_wp2_with (refine wpList_store_rowTo rfl 92 (.tmp 2) (.tmp 55) rfl rfl R #[str c.nm,.slice c.ai c.ni c.ci,u64 c.wv,.slice c.aq c.nq c.cq,i64 c.gn,.slice c.ag c.ng c.cg,.slice c.ar c.nr c.cr] (by rfl) (by rfl) 92 _ HB.out (by kernel_rfl) rfl (AF (by simp[H_])) ?_);go_wp2_with fail;exact zy (v:=.tuple #[CV c,i64 0]) (by simp[results,D_,go_sem,r0,r1,r2,r3,r4,r5,r6]) rfl ⟨c,0,.inl ⟨rfl,rfl⟩,HF.out⟩
  ·have hz:((f:Int) != 0)=true:=by simp;omega
   have y0:=HB.out.frozen 0;have t6:=(HB.out.drew).setRow #[.string ⟨#[]⟩,.slice none 0 0,u64 0,.slice none 0 0,i64 0,.slice none 0 0,.slice none 0 0];obtain⟨r0,r1,r2,r3,r4,r5,r6⟩:=zk7 t6;have HF:Hid (c.nm=nm/\D (w5.drew.setRow R #[.string ⟨#[]⟩,.slice none 0 0,u64 0,.slice none 0 0,i64 0,.slice none 0 0,.slice none 0 0]) c f/\Ac w (w5.drew.setRow R #[.string ⟨#[]⟩,.slice none 0 0,u64 0,.slice none 0 0,i64 0,.slice none 0 0,.slice none 0 0])):=⟨HE.out.2.1,xj.out _ _ _ _ _ _ HE.out.1 ((zr (λ j=>j=R) _).drew.setRow (.inl rfl) _) HB.out,HE.out.2.2.drew.setRow (.inr (by rw[H0.out.2.2];exact zl _)) _⟩;have HX7:Hid (∀ W',Kept (λ j=>j=R) w5 W'->W'.cell? ⟨X,7,none⟩=some (i64 f)):=λ W' k=>k.cell x7 (by
    have q1:=(HT.out.2.2.1.trans H3.out).size
    have q3:=HZ.out.2.2
    have q4:=H0.out.2.1.lt
    show ¬ X=R
    omega)
   clear t6 HE;go_upto_region 11 with fail;refine rG [] (λ j=>j=R) ?_;refine pG 0 47 ?_;refine pG 1 48 ?_;refine pG 2 49 ?_;refine pG 3 50 ?_;refine tF 4 51 HX7.out (((zr (λ j=>j=R) w5).drew)) ?_;refine DH 5 (λ K Aj=>?_);refine wp_store_row 92 (.tmp 2) (.tmp 47) rfl R #[.string ⟨#[]⟩,.slice none 0 0,u64 0,.slice none 0 0,i64 0,.slice none 0 0,.slice none 0 0] rfl rfl 92 _ HB.out.drew (by kernel_rfl) rfl (AF (by simp[H_])) ?_;refine Aj _ (λ _=>(((zr (λ j=>j=R) _)).setRow (.inl rfl) _)) ?_;clear Aj;refine pG 6 3 ?_;refine dG ?_;go_wp2_with fail;exact zy (v:=.tuple #[CV zCm,i64 f]) (by simp[results,D_,go_sem,r0,r1,r2,r3,r4,r5,r6];rfl) rfl ⟨c,f,.inr ⟨hf,rfl⟩,HF.out⟩
 ·refine xu.out.mono ?_;rintro e w5 ⟨rfl,⟨c,f,JG,hd5,jv⟩,k5⟩;clear xu HQ0;have pr:Ac w1 w5:=KT.out.then k5 (λ j hj hXj=>by
   have q1:=(HT.out.2.2.1.trans H3.out).size
   have q3:=HZ.out.2.2
   have hXj:X<=j:=hXj
   omega)
  have vH:=H0.out.2.1.grew pr;have x0:=JG.cell 0;have x1:=JG.cell 1;have x2:=JG.cell 2;have x3:=JG.cell 3;have x4:=JG.cell 4;have x5:=JG.cell 5;have x6:=JG.cell 6;have x7:=JG.cell 7;simp at x0 x1 x2 x3 x4 x5 x6 x7;have HE:=DK hd5 jv (H0.out.1.trans pr);have HB:=zh vH;clear JG hd5 jv k5 pr vH;by_cases hf:f=0
  ·subst hf;have t6:=HB.out.setRow #[str c.nm,.slice c.ai c.ni c.ci,u64 c.wv,.slice c.aq c.nq c.cq,i64 c.gn,.slice c.ag c.ng c.cg,.slice c.ar c.nr c.cr];obtain⟨r0,r1,r2,r3,r4,r5,r6⟩:=zk7 t6;have HF:Hid (c.nm=nm/\D (w5.setRow R #[str c.nm,.slice c.ai c.ni c.ci,u64 c.wv,.slice c.aq c.nq c.cq,i64 c.gn,.slice c.ag c.ng c.cg,.slice c.ar c.nr c.cr]) c 0/\Ac w (w5.setRow R #[str c.nm,.slice c.ai c.ni c.ci,u64 c.wv,.slice c.aq c.nq c.cq,i64 c.gn,.slice c.ag c.ng c.cg,.slice c.ar c.nr c.cr])):=⟨HE.out.2.1,xj.out _ _ _ _ _ _ HE.out.1 ((zr (λ j=>j=R) _).setRow (.inl rfl) _) HB.out,HE.out.2.2.setRow (.inr (by rw[H0.out.2.2];exact zl _)) _⟩;clear t6 HE;go_wp2_with (refine wpList_store_rowTo rfl 92 (.tmp 2) (.tmp 55) rfl rfl R #[str c.nm,.slice c.ai c.ni c.ci,u64 c.wv,.slice c.aq c.nq c.cq,i64 c.gn,.slice c.ag c.ng c.cg,.slice c.ar c.nr c.cr] (by rfl) (by rfl) 92 _ HB.out (by kernel_rfl) rfl (AF (by simp[H_])) ?_);go_wp2_with fail;exact zy (v:=.tuple #[CV c,i64 0]) (by simp[results,D_,go_sem,r0,r1,r2,r3,r4,r5,r6]) rfl ⟨c,0,.inl ⟨rfl,rfl⟩,HF.out⟩
  ·have hz:((f:Int) != 0)=true:=by simp;omega
   have y0:=HB.out.frozen 0;have t6:=(HB.out.drew).setRow #[.string ⟨#[]⟩,.slice none 0 0,u64 0,.slice none 0 0,i64 0,.slice none 0 0,.slice none 0 0];obtain⟨r0,r1,r2,r3,r4,r5,r6⟩:=zk7 t6;have HF:Hid (c.nm=nm/\D (w5.drew.setRow R #[.string ⟨#[]⟩,.slice none 0 0,u64 0,.slice none 0 0,i64 0,.slice none 0 0,.slice none 0 0]) c f/\Ac w (w5.drew.setRow R #[.string ⟨#[]⟩,.slice none 0 0,u64 0,.slice none 0 0,i64 0,.slice none 0 0,.slice none 0 0])):=⟨HE.out.2.1,xj.out _ _ _ _ _ _ HE.out.1 ((zr (λ j=>j=R) _).drew.setRow (.inl rfl) _) HB.out,HE.out.2.2.drew.setRow (.inr (by rw[H0.out.2.2];exact zl _)) _⟩;have HX7:Hid (∀ W',Kept (λ j=>j=R) w5 W'->W'.cell? ⟨X,7,none⟩=some (i64 f)):=λ W' k=>k.cell x7 (by
    have q1:=(HT.out.2.2.1.trans H3.out).size
    have q3:=HZ.out.2.2
    have q4:=H0.out.2.1.lt
    show ¬ X=R
    omega)
   clear t6 HE;go_upto_region 11 with fail;refine rG [] (λ j=>j=R) ?_;refine pG 0 47 ?_;refine pG 1 48 ?_;refine pG 2 49 ?_;refine pG 3 50 ?_;refine tF 4 51 HX7.out (((zr (λ j=>j=R) w5).drew)) ?_;refine DH 5 (λ K Aj=>?_);refine wp_store_row 92 (.tmp 2) (.tmp 47) rfl R #[.string ⟨#[]⟩,.slice none 0 0,u64 0,.slice none 0 0,i64 0,.slice none 0 0,.slice none 0 0] rfl rfl 92 _ HB.out.drew (by kernel_rfl) rfl (AF (by simp[H_])) ?_;refine Aj _ (λ _=>(((zr (λ j=>j=R) _)).setRow (.inl rfl) _)) ?_;clear Aj;refine pG 6 3 ?_;refine dG ?_;go_wp2_with fail;exact zy (v:=.tuple #[CV zCm,i64 f]) (by simp[results,D_,go_sem,r0,r1,r2,r3,r4,r5,r6];rfl) rfl ⟨c,f,.inr ⟨hf,rfl⟩,HF.out⟩
theorem Kept.le {w w':F_} {X:Nat} (h:Kept (λ j=>j=X) w w'):Kept (λ j=>X<=j) w w':=h.mono λ j _ e=>by omega
theorem aE {w w':F_} {T:Nat} {t:TypeId} {ds:Array Value} {base n size:Nat} {e:TypeId} {v:Value} {xs:List Value} (h:w.ownsRow base e size v n xs) (k:Kept (λ j=>j=T) w w') (hT:Am w T t ds) (Bm:e≠t):w'.ownsRow base e size v n xs :=
 Kept.own k h λ j hj e'=>by
  obtain⟨_,cur,hc⟩:=Ao h hj;exact Am.ne (show Am w j e cur from hc) hT Bm e'
def Ol (N:Nat) (es:List AB) (w:F_) (c:Cm):Prop:=c.gn=(N:Int)/\c.ng=es.length/\∃ B,Bc w B (.slice c.ag c.ng c.cg) es
theorem Ol.row {N:Nat} {es:List AB} {w:F_} {c:Cm} (h:Ol N es w c):Bj w c.ag es:=by
 obtain⟨_,h2,B,h3⟩:=h;obtain⟨A,k,hv,hr⟩:=h3.row;injection hv with e1 _ _;rw[e1];exact hr
theorem MO (N:Nat) (es:List AB):∀ x∈AJ N es,Cp x:=by
 intro x hx;unfold AJ at hx;rcases I_.1 hx with rfl | hx
 ·exact Cf _
 ·rcases I_.1 hx with rfl | hx
  ·exact Cf _
  ·obtain⟨e,_,he⟩:=J_.1 hx;unfold Dw at he;simp only[I_,M_,or_false]at he;rcases he with rfl | rfl | rfl<;>exact Cf _
theorem zAe (ws:List (List UInt8)) (M:Nat) (h:∀ x∈ws,x.length<=M):(ws.map List.length).sum<=ws.length*M:=by
 induction ws with
 | nil=>simp
 | cons x ws ih =>
  have h1:=ih λ y hy=>h y (by simp[hy]);have h2:=h x (by simp);have h3:(ws.length+1)*M=ws.length*M+M:=Nat.succ_mul _ _;simp only[List.map_cons,List.sum_cons,N_];omega
theorem EO (x:List UInt8) (ws:List (List UInt8)) (M:Nat) (h:∀ y∈ws,y.length<=M):(At (x::ws)).length<=x.length+ws.length+ws.length*M:=by
 have:=zAe ws M h;show (x++C7 ws).length<=_;rw[L_,lx];omega
theorem MN (N:Nat) (es:List AB) (hr:Aq N es=0) (hm:es.length<=1000):∀ x∈AJ N es,x.length<=10:=by
 intro x hx;have hz:=right_zero hr;have d10:∀ n:Nat,n<10000000000->(dec n).length<=10:=λ n h=>Dz (k:=9) (by omega);unfold AJ at hx;rcases I_.1 hx with rfl | hx
 ·exact d10 _ (by have:=hz.2.1;omega)
 ·rcases I_.1 hx with rfl | hx
  ·exact d10 _ (by omega)
  ·obtain⟨⟨p,q,r⟩,JH,he⟩:=J_.1 hx;have hE:=Ch hr JH;unfold Mb at hE;simp only at hE;have hN:=hz.2.1;unfold Dw at he;simp only[I_,M_,or_false]at he;rcases he with rfl | rfl | rfl<;>exact d10 _ (by omega)
theorem eE (N:Nat) (es:List AB) (hr:Aq N es=0) (hm:es.length<=1000) (w:F_) :
  G_ A_ 34 #[str (At (Af 0::AJ N es))] w λ e w'=>∃ c:Cm,e=.returned (.tuple #[CV c,i64 0])/\c.nm=Af 0/\Ol N es w' c/\Ac w w':=by
 have hlen:=CX N es
 refine(ES 0 (by omega) (AJ N es) (λ W c f=>f=0/\Ol N es W c) (MO N es) ?_ (by rw[hlen];omega) ?_ ?_ w).mono ?_
 ·have h1:=EO (Af 0) (AJ N es) 10 (MN N es hr hm);have h2:(Af 0).length=4:=rfl;omega
 ·intro W X A cap h hT Bg hA;refine(kQ X cap N A es 0 _ _ W hr hm hT Bg h).mono ?_;rintro e W' ⟨rfl,⟨v,JL,hed⟩,k⟩;obtain⟨A1,c1,hv,AY⟩:=hed.row;subst hv;exact⟨rfl,⟨⟨Af 0,none,0,0,0,none,0,0,N,A1,es.length,c1,none,0,0⟩,0,JL.blk,⟨rfl,rfl,rfl,_,hed⟩,rfl⟩,k.le⟩
 ·rintro W W' c f T cs ⟨h0,h1,h2,B,h3⟩ k hT;exact⟨h0,h1,h2,B,aE h3 k hT (by decide)⟩
 ·rintro e w' ⟨c,f,he,hn,⟨rfl,hd⟩,g⟩;rcases he with ⟨_,rfl⟩ | ⟨h,_⟩
  ·exact⟨c,rfl,hn,hd,g⟩
  ·exact absurd rfl h
def I1 (rk:List Int) (w:F_) (c:Cm):Prop:=c.nr=rk.length/\∃ B,AO w B (.slice c.ar c.nr c.cr) rk
theorem I1.row {rk:List Int} {w:F_} {c:Cm} (h:I1 rk w c):RowI w c.ar rk:=by
 obtain⟨h2,B,h3⟩:=h;obtain⟨A,k,hv,hr⟩:=h3.row;injection hv with e1 _ _;rw[e1];exact hr
theorem Ik (w:F_) :
  G_ A_ 34 #[str (Af 1)] w λ e w'=>∃ c:Cm,e=.returned (.tuple #[CV c,i64 0])/\c.nm=Af 1/\I1 [] w' c/\Ac w w':=by
 have hj:At (Af 1::[])=Af 1:=by simp[At,C7]
 have:=ES 1 (by omega) [] (λ W c f=>f=0/\I1 [] W c) (λ x hx=>by simp at hx) (by rw[hj];decide) (by simp) (λ W X A cap h hT Bg hA=>?_) ?_ w
 ·rw[hj]at this;refine this.mono ?_;rintro e w' ⟨c,f,he,hn,⟨rfl,hd⟩,g⟩;rcases he with ⟨_,rfl⟩ | ⟨h,_⟩
  ·exact⟨c,rfl,hn,hd,g⟩
  ·exact absurd rfl h
 ·refine(aS X cap A 0 _ _ W h).mono ?_;rintro e W' ⟨rfl,rfl⟩;exact⟨rfl,⟨⟨Af 1,none,0,0,0,none,0,0,0,none,0,0,none,0,0⟩,0,h.blk,⟨rfl,rfl,0,⟨rfl,.inl ⟨rfl,rfl⟩⟩⟩,rfl⟩,zr _ _⟩
 ·rintro W W' c f T cs ⟨h0,h1,B,h3⟩ k hT;exact⟨h0,h1,B,aE h3 k hT (by decide)⟩
theorem eh {zs:List Nat} (h:zs≠[]):Cp (Bl (zs.map dec)):=by
 refine⟨ab h,λ c hc=>?_⟩;have hd:∀ n:Nat,∀ c∈dec n,sgn c=true:=λ n=>(Cf n).2;cases zs with
 | nil=>exact absurd rfl h
 | cons n zs =>
  simp only[List.map_cons,Bl,List.mem_append]at hc;rcases hc with hc | hc
  ·exact hd n c hc
  ·simp only[EC,J_,List.mem_map,I_]at hc;obtain⟨x,⟨m,_,rfl⟩,rfl | hc⟩:=hc
   ·decide
   ·exact hd m c hc
theorem Il (zs:List Nat) (Bm:zs≠[]) (hz:∀ n∈zs,n<=4096) (hl:zs.length<=100) (Ba:Bq (Be zs)) (w:F_) :
  G_ A_ 34 #[str (Af 1++32::Bl (zs.map dec))] w λ e w'=>∃ c:Cm,e=.returned (.tuple #[CV c,i64 0])/\c.nm=Af 1/\I1 (Be zs) w' c/\Ac w w':=by
 have hj:At (Af 1::[Bl (zs.map dec)])=Af 1++32::Bl (zs.map dec):=by simp[At,C7]
 have hsum:∀ l:List Nat,(∀ n∈l,n<=4096)->((l.map dec).map List.length).sum<=l.length*4:=λ l=>by
  induction l with
  | nil=>intro _;simp
  | cons n l ih =>
   intro h;have h1:=ih (λ m hm=>h m (by simp[hm]));have h2:=Dz (k:=3) (n:=n) (by have:=h n (by simp);omega);simp at h1 ⊢;omega
 have hlen:=My (zs.map dec)
 have hs:=hsum zs hz
 rw[K_]at hlen
 have:=ES 1 (by omega) [Bl (zs.map dec)] (λ W c f=>f=0/\I1 (Be zs) W c) (λ x hx=>by simp at hx;subst hx;exact eh Bm) (by rw[hj,L_,N_];have:(Af 1).length=5:=rfl;omega) (by simp) (λ W X A cap h hT Bg hA=>?_) ?_ w
 ·rw[hj]at this;refine this.mono ?_;rintro e w' ⟨c,f,he,hn,⟨rfl,hd⟩,g⟩;rcases he with ⟨_,rfl⟩ | ⟨h,_⟩
  ·exact⟨c,rfl,hn,hd,g⟩
  ·exact absurd rfl h
 ·refine(aT X cap A zs 0 _ W Bm hz (by omega) Ba hT (by simpa using Bg) h).mono ?_;rintro e W' ⟨rfl,⟨v,JL,ho⟩,k⟩;obtain⟨A1,c1,rfl⟩:=Ap ho;exact⟨rfl,⟨⟨Af 1,none,0,0,0,none,0,0,0,none,0,0,A1,(Be zs).length,c1⟩,0,JL.blk,⟨rfl,rfl,_,ho⟩,rfl⟩,k.le⟩
 ·rintro W W' c f T cs ⟨h0,h1,B,h3⟩ k hT;exact⟨h0,h1,B,aE h3 k hT (by decide)⟩
def EA (s:St) (w:F_) (c:Cm):Prop:=c.wv=s.wv/\c.ni=s.zs.length/\∃ B,AO w B (.slice c.ai c.ni c.ci) s.zs
theorem KO (i:Nat) (Bv:List Arg) (hi:i<13) (h0:i≠0) (h1:i≠1) (h9:i≠9) (hk:Ct i=Bv.map (·.k)) (hall:∀ a∈Bv,FC a) (Hs:∀ k,k<Bv.length->(BJ ⟨[],0,[],0⟩ (Bv.take k)).f=0) (Ba:∀ a∈Bv,Cp a.l) (hlen:(At (Af i::Bv.map (·.l))).length<=65536) (hn:Bv.length<=100) (f:Nat) (hf:(BJ ⟨[],0,[],0⟩ Bv).f=f) (w:F_) :
  G_ A_ 34 #[str (At (Af i::Bv.map (·.l)))] w λ e w'=>∃ c:Cm,JB c f e/\c.nm=Af i/\EA (BJ ⟨[],0,[],0⟩ Bv) w' c/\Ac w w':=by
 obtain⟨S,hS⟩:=zn (BJ ⟨[],0,[],0⟩ Bv)
 rw[hS]at hf ⊢
 have h3:(Bv.map (·.l)).length<16384:=by rw[K_];omega
 have h4:∀ x∈Bv.map (·.l),Cp x:=λ x hx=>by obtain⟨a,ha,rfl⟩:=List.mem_map.1 hx;exact Ba a ha
 have h5:mJ i (Bv.map (·.l)) (λ W c f'=>f'=f/\EA (S) W c):=by
  intro W X A cap h hT Bg hA;rw[K_]at Bg ⊢;refine(kN X i cap A Bv 0 _ _ W hi h0 h1 h9 hk hall Hs hT Bg hn h hA).mono ?_;rintro e W' ⟨rfl,⟨v,q,JL⟩,k⟩;rw[hS]at JL;obtain⟨A1,c1,rfl⟩:=Ap JL.own;obtain⟨A2,c2,rfl⟩:=Ap JL.ownq;have hb:=JL.blk;rw[hf]at hb;exact⟨rfl,⟨⟨Af i,A1,S.zs.length,c1,S.wv,A2,S.qs.length,c2,0,none,0,0,none,0,0⟩,f,hb,⟨rfl,rfl,rfl,_,JL.own⟩,rfl⟩,k⟩
 have h6:∀ W W' c f' T cs,(f'=f/\EA S W c)->Kept (λ j=>j=T) W W'->Am W T 92 cs->(f'=f/\EA S W' c):=by
  rintro W W' c f' T cs ⟨h0,h1,h2,B,h3⟩ k hT;exact⟨h0,h1,h2,B,aE h3 k hT (by decide)⟩
 have h7:=ES i hi (Bv.map (·.l)) (λ W c f'=>f'=f/\EA S W c) h4 hlen h3 h5 h6 w
 refine h7.mono ?_
 rintro e w' ⟨c,f',he,Cw,⟨e1,hd⟩,g⟩
 rw[e1]at he
 exact⟨c,he,Cw,hd,g⟩
theorem Nx (w:F_) (X:Nat) (line:List UInt8) (v:F_->Value->Prop) (t:ByteArray) (R:F_->Prop) (hDo:G_ A_ 10 #[pt X,str line] w λ e w'=>∃ u,e=.returned u/\v w' u/\R w')
  (hPr:∀ W u,v W u->G_ A_ 36 #[u] W λ e w'=>e=.returned (.string t)/\Ac W w') (hR:∀ W W',R W->Ac W W'->R W') :
  G_ A_ 14 #[pt X,str line] w λ e w'=>e=.returned (.string t)/\R w':=by
 have HD:=zh hDo
 have HP:=zh hPr
 have HR:=zh hR
 clear hDo hPr hR
 go_enter Tryz.func14,Tryz.ntmps14
 go_wp2_with fail
 refine HD.out.mono ?_
 rintro e w1 ⟨u,rfl,hv,hr⟩
 have fi:=zh (HP.out _ _ hv)
 have Hr:=zh hr
 clear hv hr HD HP
 go_wp2_with fail
 refine fi.out.mono ?_
 rintro e w2 ⟨rfl,g⟩
 have Hg:=zh (HR.out _ _ Hr.out g)
 clear g fi Hr
 go_wp2_with fail
 go_ret
 exact⟨rfl,Hg.out⟩
theorem aw (w:F_) (X:Nat) (line:List UInt8) (k:Nat) (hk:1<=k/\k<15) (R:F_->Prop) (hDo:G_ A_ 10 #[pt X,str line] w λ e w'=>e=.returned (Bx k)/\R w') (hR:∀ W W',R W->Ac W W'->R W') :
  G_ A_ 14 #[pt X,str line] w λ e w'=>e=.returned (.string (IC k))/\R w' :=
 Nx w X line (λ _ u=>u=Bx k) (IC k) R (hDo.mono λ e w' h=>⟨_,h.1,rfl,h.2⟩) (λ W u hu=>by rw[hu];exact NB k hk W) hR
theorem jg (A A2:Option Addr) (n c n2 c2:Nat) (W:F_):(Instr.field 87 (.agg #[.slice A n c,.slice A2 n2 c2]) 0).run A_ W=.ok (.slice A n c) W:=by kernel_rfl
theorem GX {w:F_} {X Y B:Nat} {hops settles:Int} {N:Nat} {es:List AB} {x:Hx} (h:Au w X Y B hops settles 2 N es (some x)) (GM:x.rk.length<=100000) (DY:x.ss.length<=100000) :
  G_ A_ 9 #[pt X] w λ e w'=>∃ v,e=.returned v/\AO w' w.heap.size v x.rk/\Ac w w':=by
 have x0:w.cell? ⟨X,0,none⟩=some (pt Y):=by
  obtain⟨left,done,q1,_,q3⟩:=h;have p:=Am.cell q1 0;simp at p;exact p
 obtain⟨H,HH,HQ⟩:∃ H,Hid (G_ A_ 31 #[pt Y] w λ e w'=>e=.returned (.tuple #[pt H,i64 0])/\Ac w w')/\Hid (∀ W,Ac w W->G_ A_ 32 #[pt H] W λ e w'=>∃ v1 v2,e=.returned (.agg #[v1,v2])/\AO w' W.heap.size v1 x.rk/\Fz w' W.heap.size v2 x.ss/\Ac W w'):=by
  obtain⟨left,done,q1,q2,q3⟩:=h;obtain⟨Ak,ck,ev,hv,c0,c1,c2,q⟩:=q2;obtain⟨H,rfl,hH,_,_⟩:=q.hier;exact⟨H,GU q.blk,λ W k=>FH (hH.grew k) GM DY⟩
 have rM:=jg
 clear h GM DY
 go_enter Tryz.func9,Tryz.ntmps9
 go_wp2_with fail
 refine HH.out.mono ?_
 rintro e w3 ⟨rfl,g3⟩
 have H3:=zh g3
 clear HH x0 g3
 go_wp2_with fail
 refine(HQ.out _ H3.out).mono ?_
 rintro e w4 ⟨v1,v2,rfl,o1,o2,g4⟩
 obtain⟨A1,c1,rfl,r1⟩:=o1.row
 obtain⟨A2,c2,rfl,r2,_⟩:=o2.row
 have H4:=BP ((Az o1 H3.out.size:AO w4 w.heap.size _ _)) (H3.out.trans g4)
 clear g4 o1 o2 r1 r2 HQ
 go_wp2_with fail
 exact zy (v:=.slice A1 x.rk.length c1) (by simp[results,Tryz.results9,go_sem]) rfl ⟨_,rfl,H4.out⟩
end Go.Proofs.YtepelooebggliaaGreatDoor
