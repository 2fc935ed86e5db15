/- Parts of the proof, packed (Times to Items); each theorem bears its own conditions. -/
import Derived.Lib.IndexBytes
import Derived.Test.YtkfofnjfihfgkaaGreatDoorPz10
set_option linter.unusedVariables false
set_option linter.unusedSimpArgs false
set_option maxRecDepth 100000
set_option maxHeartbeats 8000000
open Go.Proofs.Tryz
open Go.Lib renaming hid → aa
theorem aah {p:Prop} (h:p:=by rw[ByteArray.size_extract];omega):p:=h
theorem aaa {p:Prop} (h:p:=by simp[results,Tryz.results163,go_sem]):p:=h
theorem aar {p:Prop} (h:p:=by rw[CP, ← (iH cQ s.data.toList).1,HN.o]):p:=h
theorem aat {p:Prop} (h:p:=by rw[HN.o]at h;cases h):p:=h
theorem aal {p:Prop} (h:p:=by rw[fo];unfold fR;simpa using he):p:=h
namespace Go.Proofs.YtkfofnjfihfgkaaGreatDoor
open Go Go.RowKit Bg Go.Proofs Sh Kb
def Si (g:eD→eD):Nat→eD→eD
 |0,a=>a
 |k+1,a=>g (Si g k a)
def pn (a f:eD) (e:Int):eD:=if 0<e then Si (fun x=>yK x f) e.toNat a else Si (fun x=>EO x f) (-e).toNat a
theorem rj {g:eD→eD} (hg:∀ x,dF x=true→x.p.sign=1→dF (g x)=true∧(g x).p.sign=1) {a:eD} (ha:dF a=true) (hs:a.p.sign=1):∀ k,dF (Si g k a)=true∧(Si g k a).p.sign=1
 |0=>⟨ha,hs⟩
 |k+1=>by
  have:=rj hg ha hs k;exact hg _ this.1 this.2
theorem FJ {f:eD} (hf:dF f=true) (hs:f.p.sign=1):∀ x,dF x=true→x.p.sign=1→dF (yK x f)=true∧(yK x f).p.sign=1:=fun x h1 h2=>⟨CG h1 hf,Ke h1 hf h2 hs⟩
theorem FK {f:eD} (hf:dF f=true) (hs:f.p.sign=1):∀ x,dF x=true→x.p.sign=1→dF (EO x f)=true∧(EO x f).p.sign=1:=fun x h1 h2=>⟨M4 h1 hf hs,Vt h1 hf h2 hs⟩
theorem G3 {a f:eD} (ha:dF a=true) (hs:a.p.sign=1) (hf:dF f=true) (hfs:f.p.sign=1) (e:Int):dF (pn a f e)=true∧(pn a f e).p.sign=1:=by
 unfold pn;split
 (·exact rj (FJ hf hfs) ha hs _);exact rj (FK hf hfs) ha hs _
def ux (M:Nat) (k g0:Nat) (fc:List Value) (w wr:World) (x:eD):Prop:=
 ∃ s A n c t B m d,cH wr g0 93 [bR s,bQ A n c,bR t,bQ B m d]∧dI M wr s A n t B m x∧(0<k→dM (g0+1+1+1) A∧dM (g0+1+1+1) B)∧
  cH wr (g0+1) 93 fc∧cH wr (g0+1+1) 93 [bR 0,cG,bR 0,cG]∧Below g0 w wr
theorem iW {w:World} {g:Nat} {t:TypeId} {cs:List Value} (h:w.heap.size=g):cH (w.alloc (.cells cs.toArray t)) g t cs:=by
 subst h;exact heap_alloc_new w _
theorem xo {w:World} {g g':Nat} {t:TypeId} {cs:List Value} {v0 v1 v2 v3:Value} (h:cH w g t cs) (hne:g≠g'):cH ((((w.setCell (bS g' 0) v0).setCell (bS g' 1) v1).setCell (bS g' 2) v2).setCell (bS g' 3) v3) g t cs:=
 (Below.heap_setCell _ (bS g' 3) v3 g hne).trans ((Below.heap_setCell _ (bS g' 2) v2 g hne).trans ((Below.heap_setCell _ (bS g' 1) v1 g hne).trans ((Below.heap_setCell _ (bS g' 0) v0 g hne).trans h)))
theorem M9 {M n nq n' nq':Nat} {s sq s' vX:Int} {A Aq A' vY:Option Addr} {a b:eD} (c cq c' yL:Nat) (ex:Int) (w:World) (h:dI M w s A n sq Aq nq a) (h':dI 8 w s' A' n' vX vY nq' b) (sU:dF a=true) (VF:a.p.sign=1) (hrb:dF b=true) (En:b.p.sign=1) (he:(-9≤ex∧ex≤9)∧ex≠0) (hM:M≤10000):Calls prog 118 #[.agg #[bR s,bQ A n c,bR sq,bQ Aq nq cq],.agg #[bR s',bQ A' n' c',bR vX,bQ vY nq' yL],bR ex] w (Qr (M+72) (pn a b ex) w):=by
 have H:=aa h;have H':=aa h';have HA:=aa (show dF a=true∧a.p.sign=1 from⟨sU,VF⟩);have HF:=aa (show dF b=true∧b.p.sign=1 from⟨hrb,En⟩);clear h h' sU VF hrb En;have hneg:IntKind.i64.wrap (-ex)=-ex:=fC af;by_cases hpos:0<ex
 ·have HTE:=aa (show pn a b ex=Si (fun x=>yK x b) ex.toNat a by unfold pn;rw[if_pos hpos]);have hgt:decide (0<ex)=true:=(by simpa using hpos);obtain⟨K,hK⟩:∃ K:Nat,ex.toNat=K:=⟨_,rfl⟩;have hmx:max ex (-ex)=(K:Int):=af;have hK1:0<K∧K≤9:=af;rw[hK]at HTE;clear he hpos hK;go_enter func118,ntmps118;go_wp2_with fail;have LZ:=aa (show ux (M+8*0) 0 w.heap.size [bR s',bQ A' n' c',bR vX,bQ vY nq' yL] w (((w.alloc (.cells #[bR s,bQ A n c,bR sq,bQ Aq nq cq] 93)).alloc (.cells #[bR s',bQ A' n' c',bR vX,bQ vY nq' yL] 93)).alloc (.cells #[bR 0,cG,bR 0,cG] 93)) (Si (fun x=>yK x b) 0 a)from⟨_,_,_,c,_,_,_,cq,(((iW rfl).alloc _).alloc _),⟨(((H.o.1.alloc _).alloc _).alloc _).up af,(((H.o.2.alloc _).alloc _).alloc _).up af⟩,fun h=>absurd h af,((iW aj).alloc _),(iW aj),((((Below.refl _ w).alloc (Nat.le_refl _) _).alloc aj _).alloc aq _)⟩);generalize (((w.alloc (.cells #[bR s,bQ A n c,bR sq,bQ Aq nq cq] 93)).alloc (.cells #[bR s',bQ A' n' c',bR vX,bQ vY nq' yL] 93)).alloc (.cells #[bR 0,cG,bR 0,cG] 93))=W0 at LZ ⊢;go_loopw [11] (fun v wr=>∃ k:Nat,k≤K∧v=bR (k:Int)∧Hid (ux (M+8*k) k w [bR s',bQ A' n' c',bR vX,bQ vY nq' yL] w wr (Si (fun x=>yK x b) k a))) (fun v _=>K - (intOf v).toNat);(case atStart=>exact⟨0,Nat.zero_le _,rfl,LZ.o⟩);obtain⟨k,hk,rfl,HT⟩:=hrel;obtain⟨xs,xA,xn,xc,xt,xB,xm,xd,hb0,hfx,hfr,hb1,hb2,iM⟩:=HT.o;have hzr:=hb2.lt;have r00:bW wr w 0 (bR xs):=hb0.cell 0;have r00f:wr.frozen? (bS w 0)=false:=hb0.frozen 0;have r01:bW wr w 1 (bQ xA xn xc):=hb0.cell 1;have r01f:wr.frozen? (bS w 1)=false:=hb0.frozen 1;have r02:bW wr w 2 (bR xt):=hb0.cell 2;have r02f:wr.frozen? (bS w 2)=false:=hb0.frozen 2;have r03:bW wr w 3 (bQ xB xm xd):=hb0.cell 3;have r03f:wr.frozen? (bS w 3)=false:=hb0.frozen 3;have r10:bW wr (w+1) 0 (bR s'):=hb1.cell 0;have r10f:wr.frozen? (bS (w+1) 0)=false:=hb1.frozen 0;have r11:bW wr (w+1) 1 (bQ A' n' c'):=hb1.cell 1;have r11f:wr.frozen? (bS (w+1) 1)=false:=hb1.frozen 1;have r12:bW wr (w+1) 2 (bR vX):=hb1.cell 2;have r12f:wr.frozen? (bS (w+1) 2)=false:=hb1.frozen 2;have r13:bW wr (w+1) 3 (bQ vY nq' yL):=hb1.cell 3;have r13f:wr.frozen? (bS (w+1) 3)=false:=hb1.frozen 3;have r20:bW wr (w+1+1) 0 (bR 0):=hb2.cell 0;have r20f:wr.frozen? (bS (w+1+1) 0)=false:=hb2.frozen 0;have r21:bW wr (w+1+1) 1 (bQ none 0 0):=hb2.cell 1;have r21f:wr.frozen? (bS (w+1+1) 1)=false:=hb2.frozen 1;have r22:bW wr (w+1+1) 2 (bR 0):=hb2.cell 2;have r22f:wr.frozen? (bS (w+1+1) 2)=false:=hb2.frozen 2;have r23:bW wr (w+1+1) 3 (bQ none 0 0):=hb2.cell 3;have r23f:wr.frozen? (bS (w+1+1) 3)=false:=hb2.frozen 3;have ju:=aa hb0;have eJ:=aa hb1;have eT:=aa hb2;have oH:=aa iM;have YN:=aa hfx;have Em:=aa hfr;clear hb0 hb1 hb2 iM hfx hfr HT;by_cases hlt:k<K
  (·have hxr:=rj (FJ HF.o.1 HF.o.2) HA.o.1 HA.o.2 k;have HC:=aa (Kf xc xd c' yL wr YN.o (H'.o.bU oH.o) hxr.1 HF.o.1 af);clear hxr;go_wp2_with fail;refine(HC.o).mono ?_;rintro e w5 ⟨s5,A5,n5,c5,t5,B5,m5,d5,rfl,p9,vE,fH⟩;have fu:=aa (fH);obtain⟨sV,IW⟩:=iu fH;have xb:=fH.size;have u0:w.heap.size<w5:=af;have u1:w.heap.size+1<w5:=af;have u2:w.heap.size+1+1<w5:=af;have uo:=aa p9;have mg:=aa vE;clear fH xb p9 vE;have HN:=aa (show ux (M+8*(k+1)) (k+1) w [bR s',bQ A' n' c',bR vX,bQ vY nq' yL] w ((((w5.setCell (bS w 0) (bR s5)).setCell (bS w 1) (bQ A5 n5 c5)).setCell (bS w 2) (bR t5)).setCell (bS w 3) (bQ B5 m5 d5)) (Si (fun x=>yK x b) (k+1) a)from⟨s5,A5,n5,c5,t5,B5,m5,d5,(((((ju.o.bU fu.o af).cM 0 (bR s5)).cM 1 (bQ A5 n5 c5)).cM 2 (bR t5)).cM 3 (bQ B5 m5 d5)),⟨((((uo.o.1.b_ (i:=0) mg.o.1 (show w.heap.size<wr by omega) (bR s5)).b_ (i:=1) mg.o.1 (show w.heap.size<wr by omega) (bQ A5 n5 c5)).b_ (i:=2) mg.o.1 (show w.heap.size<wr by omega) (bR t5)).b_ (i:=3) mg.o.1 (show w.heap.size<wr by omega) (bQ B5 m5 d5)),((((uo.o.2.b_ (i:=0) mg.o.2 (show w.heap.size<wr by omega) (bR s5)).b_ (i:=1) mg.o.2 (show w.heap.size<wr by omega) (bQ A5 n5 c5)).b_ (i:=2) mg.o.2 (show w.heap.size<wr by omega) (bR t5)).b_ (i:=3) mg.o.2 (show w.heap.size<wr by omega) (bQ B5 m5 d5))⟩,fun _=>⟨mg.o.1.low af,mg.o.2.low af⟩,(xo (eJ.o.bU fu.o af) af),(xo (eT.o.bU fu.o af) af),(((((oH.o.trans (fu.o.mono oH.o.size)).setCell (p:=bS w 0) (Nat.le_refl _) (bR s5)).setCell (p:=bS w 1) (Nat.le_refl _) (bQ A5 n5 c5)).setCell (p:=bS w 2) (Nat.le_refl _) (bR t5)).setCell (p:=bS w 3) (Nat.le_refl _) (bQ B5 m5 d5))⟩);have q0:bW w5 w 0 (bR xs):=(ju.o.bU fu.o af).cell 0;have q1:bW w5 w 1 (bQ xA xn xc):=(ju.o.bU fu.o af).cell 1;have q2:bW w5 w 2 (bR xt):=(ju.o.bU fu.o af).cell 2;have q3:bW w5 w 3 (bQ xB xm xd):=(ju.o.bU fu.o af).cell 3;have q0f:w5.frozen? (bS w 0)=false:=(ju.o.bU fu.o af).frozen 0;have q1f:w5.frozen? (bS w 1)=false:=(ju.o.bU fu.o af).frozen 1;have q2f:w5.frozen? (bS w 2)=false:=(ju.o.bU fu.o af).frozen 2;have q3f:w5.frozen? (bS w 3)=false:=(ju.o.bU fu.o af).frozen 3;clear sV IW;go_wp2_with fail;go_roundw;(case rel=>exact⟨k+1,by omega,by go_num,HN.o⟩);(case measure=>simp[intOf];omega));(obtain rfl:k=K:=by omega);go_wp2_with fail;have nj:=Em.o af;have i1:=((((YN.o.1.b_ (i:=0) nj.1 (Nat.lt_succ_self (w+1+1)) (bR xs)).b_ (i:=1) nj.1 (Nat.lt_succ_self (w+1+1)) (bQ xA xn xc)).b_ (i:=2) nj.1 (Nat.lt_succ_self (w+1+1)) (bR xt)).b_ (i:=3) nj.1 (Nat.lt_succ_self (w+1+1)) (bQ xB xm xd));have i2:=((((YN.o.2.b_ (i:=0) nj.2 (Nat.lt_succ_self (w+1+1)) (bR xs)).b_ (i:=1) nj.2 (Nat.lt_succ_self (w+1+1)) (bQ xA xn xc)).b_ (i:=2) nj.2 (Nat.lt_succ_self (w+1+1)) (bR xt)).b_ (i:=3) nj.2 (Nat.lt_succ_self (w+1+1)) (bQ xB xm xd));have qU:=((((oH.o.setCell (p:=bS (w+1+1) 0) (show w.heap.size≤w.heap.size+1+1 by omega) (bR xs)).setCell (p:=bS (w+1+1) 1) (show w.heap.size≤w.heap.size+1+1 by omega) (bQ xA xn xc)).setCell (p:=bS (w+1+1) 2) (show w.heap.size≤w.heap.size+1+1 by omega) (bR xt)).setCell (p:=bS (w+1+1) 3) (show w.heap.size≤w.heap.size+1+1 by omega) (bQ xB xm xd));rw[HTE.o];exact bodyPost_ret (v:= .agg #[bR xs,bQ xA xn xc,bR xt,bQ xB xm xd]) (by simp[results,results118,go_sem,r20,r21,r22,r23]) rfl ⟨xs,xA,xn,xc,xt,xB,xm,xd,rfl,⟨i1.up af,i2.up af⟩,⟨nj.1.low af,nj.2.low af⟩,qU⟩
 have HTE:=aa (show pn a b ex=Si (fun x=>EO x b) (-ex).toNat a by unfold pn;rw[if_neg hpos]);have hgt:decide (0<ex)=false:=(by simpa using hpos);obtain⟨K,hK⟩:∃ K:Nat,(-ex).toNat=K:=⟨_,rfl⟩;have hmx:max ex (-ex)=(K:Int):=af;have hK1:0<K∧K≤9:=af;rw[hK]at HTE;clear he hpos hK;go_enter func118,ntmps118;go_wp2_with fail;have LZ:=aa (show ux (M+8*0) 0 w.heap.size [bR s',bQ A' n' c',bR vX,bQ vY nq' yL] w (((w.alloc (.cells #[bR s,bQ A n c,bR sq,bQ Aq nq cq] 93)).alloc (.cells #[bR s',bQ A' n' c',bR vX,bQ vY nq' yL] 93)).alloc (.cells #[bR 0,cG,bR 0,cG] 93)) (Si (fun x=>EO x b) 0 a)from⟨_,_,_,c,_,_,_,cq,(((iW rfl).alloc _).alloc _),⟨(((H.o.1.alloc _).alloc _).alloc _).up af,(((H.o.2.alloc _).alloc _).alloc _).up af⟩,fun h=>absurd h af,((iW aj).alloc _),(iW aj),((((Below.refl _ w).alloc (Nat.le_refl _) _).alloc aj _).alloc aq _)⟩);generalize (((w.alloc (.cells #[bR s,bQ A n c,bR sq,bQ Aq nq cq] 93)).alloc (.cells #[bR s',bQ A' n' c',bR vX,bQ vY nq' yL] 93)).alloc (.cells #[bR 0,cG,bR 0,cG] 93))=W0 at LZ ⊢;go_loopw [11] (fun v wr=>∃ k:Nat,k≤K∧v=bR (k:Int)∧Hid (ux (M+8*k) k w [bR s',bQ A' n' c',bR vX,bQ vY nq' yL] w wr (Si (fun x=>EO x b) k a))) (fun v _=>K - (intOf v).toNat);(case atStart=>exact⟨0,Nat.zero_le _,rfl,LZ.o⟩);obtain⟨k,hk,rfl,HT⟩:=hrel;obtain⟨xs,xA,xn,xc,xt,xB,xm,xd,hb0,hfx,hfr,hb1,hb2,iM⟩:=HT.o;have hzr:=hb2.lt;have r00:bW wr w 0 (bR xs):=hb0.cell 0;have r00f:wr.frozen? (bS w 0)=false:=hb0.frozen 0;have r01:bW wr w 1 (bQ xA xn xc):=hb0.cell 1;have r01f:wr.frozen? (bS w 1)=false:=hb0.frozen 1;have r02:bW wr w 2 (bR xt):=hb0.cell 2;have r02f:wr.frozen? (bS w 2)=false:=hb0.frozen 2;have r03:bW wr w 3 (bQ xB xm xd):=hb0.cell 3;have r03f:wr.frozen? (bS w 3)=false:=hb0.frozen 3;have r10:bW wr (w+1) 0 (bR s'):=hb1.cell 0;have r10f:wr.frozen? (bS (w+1) 0)=false:=hb1.frozen 0;have r11:bW wr (w+1) 1 (bQ A' n' c'):=hb1.cell 1;have r11f:wr.frozen? (bS (w+1) 1)=false:=hb1.frozen 1;have r12:bW wr (w+1) 2 (bR vX):=hb1.cell 2;have r12f:wr.frozen? (bS (w+1) 2)=false:=hb1.frozen 2;have r13:bW wr (w+1) 3 (bQ vY nq' yL):=hb1.cell 3;have r13f:wr.frozen? (bS (w+1) 3)=false:=hb1.frozen 3;have r20:bW wr (w+1+1) 0 (bR 0):=hb2.cell 0;have r20f:wr.frozen? (bS (w+1+1) 0)=false:=hb2.frozen 0;have r21:bW wr (w+1+1) 1 (bQ none 0 0):=hb2.cell 1;have r21f:wr.frozen? (bS (w+1+1) 1)=false:=hb2.frozen 1;have r22:bW wr (w+1+1) 2 (bR 0):=hb2.cell 2;have r22f:wr.frozen? (bS (w+1+1) 2)=false:=hb2.frozen 2;have r23:bW wr (w+1+1) 3 (bQ none 0 0):=hb2.cell 3;have r23f:wr.frozen? (bS (w+1+1) 3)=false:=hb2.frozen 3;have ju:=aa hb0;have eJ:=aa hb1;have eT:=aa hb2;have oH:=aa iM;have YN:=aa hfx;have Em:=aa hfr;clear hb0 hb1 hb2 iM hfx hfr HT;by_cases hlt:k<K
 (·have hxr:=rj (FK HF.o.1 HF.o.2) HA.o.1 HA.o.2 k;have HC:=aa (Vu xc xd c' yL wr YN.o (H'.o.bU oH.o) hxr.1 HF.o.1 HF.o.2 af);clear hxr;go_wp2_with fail;refine(HC.o).mono ?_;rintro e w5 ⟨s5,A5,n5,c5,t5,B5,m5,d5,rfl,p9,vE,fH⟩;have fu:=aa (fH);obtain⟨sV,IW⟩:=iu fH;have xb:=fH.size;have u0:w.heap.size<w5:=af;have u1:w.heap.size+1<w5:=af;have u2:w.heap.size+1+1<w5:=af;have uo:=aa p9;have mg:=aa vE;clear fH xb p9 vE;have HN:=aa (show ux (M+8*(k+1)) (k+1) w [bR s',bQ A' n' c',bR vX,bQ vY nq' yL] w ((((w5.setCell (bS w 0) (bR s5)).setCell (bS w 1) (bQ A5 n5 c5)).setCell (bS w 2) (bR t5)).setCell (bS w 3) (bQ B5 m5 d5)) (Si (fun x=>EO x b) (k+1) a)from⟨s5,A5,n5,c5,t5,B5,m5,d5,(((((ju.o.bU fu.o af).cM 0 (bR s5)).cM 1 (bQ A5 n5 c5)).cM 2 (bR t5)).cM 3 (bQ B5 m5 d5)),⟨((((uo.o.1.b_ (i:=0) mg.o.1 (show w.heap.size<wr by omega) (bR s5)).b_ (i:=1) mg.o.1 (show w.heap.size<wr by omega) (bQ A5 n5 c5)).b_ (i:=2) mg.o.1 (show w.heap.size<wr by omega) (bR t5)).b_ (i:=3) mg.o.1 (show w.heap.size<wr by omega) (bQ B5 m5 d5)),((((uo.o.2.b_ (i:=0) mg.o.2 (show w.heap.size<wr by omega) (bR s5)).b_ (i:=1) mg.o.2 (show w.heap.size<wr by omega) (bQ A5 n5 c5)).b_ (i:=2) mg.o.2 (show w.heap.size<wr by omega) (bR t5)).b_ (i:=3) mg.o.2 (show w.heap.size<wr by omega) (bQ B5 m5 d5))⟩,fun _=>⟨mg.o.1.low af,mg.o.2.low af⟩,(xo (eJ.o.bU fu.o af) af),(xo (eT.o.bU fu.o af) af),(((((oH.o.trans (fu.o.mono oH.o.size)).setCell (p:=bS w 0) (Nat.le_refl _) (bR s5)).setCell (p:=bS w 1) (Nat.le_refl _) (bQ A5 n5 c5)).setCell (p:=bS w 2) (Nat.le_refl _) (bR t5)).setCell (p:=bS w 3) (Nat.le_refl _) (bQ B5 m5 d5))⟩);have q0:bW w5 w 0 (bR xs):=(ju.o.bU fu.o af).cell 0;have q1:bW w5 w 1 (bQ xA xn xc):=(ju.o.bU fu.o af).cell 1;have q2:bW w5 w 2 (bR xt):=(ju.o.bU fu.o af).cell 2;have q3:bW w5 w 3 (bQ xB xm xd):=(ju.o.bU fu.o af).cell 3;have q0f:w5.frozen? (bS w 0)=false:=(ju.o.bU fu.o af).frozen 0;have q1f:w5.frozen? (bS w 1)=false:=(ju.o.bU fu.o af).frozen 1;have q2f:w5.frozen? (bS w 2)=false:=(ju.o.bU fu.o af).frozen 2;have q3f:w5.frozen? (bS w 3)=false:=(ju.o.bU fu.o af).frozen 3;clear sV IW;go_wp2_with fail;go_roundw;(case rel=>exact⟨k+1,by omega,by go_num,HN.o⟩);(case measure=>simp[intOf];omega));(obtain rfl:k=K:=by omega);go_wp2_with fail;have nj:=Em.o af;have i1:=((((YN.o.1.b_ (i:=0) nj.1 (Nat.lt_succ_self (w+1+1)) (bR xs)).b_ (i:=1) nj.1 (Nat.lt_succ_self (w+1+1)) (bQ xA xn xc)).b_ (i:=2) nj.1 (Nat.lt_succ_self (w+1+1)) (bR xt)).b_ (i:=3) nj.1 (Nat.lt_succ_self (w+1+1)) (bQ xB xm xd));have i2:=((((YN.o.2.b_ (i:=0) nj.2 (Nat.lt_succ_self (w+1+1)) (bR xs)).b_ (i:=1) nj.2 (Nat.lt_succ_self (w+1+1)) (bQ xA xn xc)).b_ (i:=2) nj.2 (Nat.lt_succ_self (w+1+1)) (bR xt)).b_ (i:=3) nj.2 (Nat.lt_succ_self (w+1+1)) (bQ xB xm xd));have qU:=((((oH.o.setCell (p:=bS (w+1+1) 0) (show w.heap.size≤w.heap.size+1+1 by omega) (bR xs)).setCell (p:=bS (w+1+1) 1) (show w.heap.size≤w.heap.size+1+1 by omega) (bQ xA xn xc)).setCell (p:=bS (w+1+1) 2) (show w.heap.size≤w.heap.size+1+1 by omega) (bR xt)).setCell (p:=bS (w+1+1) 3) (show w.heap.size≤w.heap.size+1+1 by omega) (bQ xB xm xd));rw[HTE.o];exact bodyPost_ret (v:= .agg #[bR xs,bQ xA xn xc,bR xt,bQ xB xm xd]) (by simp[results,results118,go_sem,r20,r21,r22,r23]) rfl ⟨xs,xA,xn,xc,xt,xB,xm,xd,rfl,⟨i1.up af,i2.up af⟩,⟨nj.1.low af,nj.2.low af⟩,qU⟩
def d6 (d0 d1 d2 d3 d4 d5:Int):List Int:=[d0,d1,d2,d3,d4,d5]
theorem VG {l:List Int} {p:Int→Bool} {k:Nat} (hk:k<l.length):(l.take (k+1)).all p=((l.take k).all p&&p (l.getD k 0)):=by
 rw[List.take_succ_eq_append_getElem hk,List.all_append];simp[hk]
theorem Sj (d0 d1 d2 d3 d4 d5:Int) (w:World):Calls prog 119 #[.agg #[bR d0,bR d1,bR d2,bR d3,bR d4,bR d5]] w fun e w'=>e= .returned (.bool (oU [d0,d1,d2,d3,d4,d5]))∧Below w w w':=by
 have hb:=((Below.refl _ w).alloc (Nat.le_refl _) (.cells #[bR d0,bR d1,bR d2,bR d3,bR d4,bR d5] 89));have HB:=aa hb;have HD:=aa (show oU [d0,d1,d2,d3,d4,d5]=(d6 d0 d1 d2 d3 d4 d5).all fun e=>decide (-9≤e)&&decide (e≤9)from rfl);generalize oU [d0,d1,d2,d3,d4,d5]=R at HD ⊢;clear hb;go_enter func119,ntmps119;go_wp2_with fail;go_loopw [6] (fun i wr=>∃ (k:Nat) (z:Int),k≤6∧z=(k:Int)∧i=bR z∧Hid (((d6 d0 d1 d2 d3 d4 d5).take k).all (fun e=>decide (-9≤e)&&decide (e≤9))=true)∧Hid (wr=w.alloc (.cells #[bR d0,bR d1,bR d2,bR d3,bR d4,bR d5] 89))) (fun i _=>6 - (intOf i).toNat);(case atStart=>exact⟨0,0,by omega,rfl,rfl,rfl,rfl⟩);obtain⟨k,z,hk,hz,rfl,HA,HW⟩:=hrel;have Sk:=aa (show Below w w wr by rw[HW.o];exact HB.o);by_cases hlt:k<6
 ·have HT:=aa (VG (l:=d6 d0 d1 d2 d3 d4 d5) (p:=fun e=>decide (-9≤e)&&decide (e≤9)) (k:=k) hlt);have hc:k=0∨k=1∨k=2∨k=3∨k=4∨k=5:=af;have Mc:=aa (show(decide (-9≤(d6 d0 d1 d2 d3 d4 d5).getD k 0)&&decide ((d6 d0 d1 d2 d3 d4 d5).getD k 0≤9))=false→R=false from fun h=>by
   rw[HD.o,List.all_eq_false];refine⟨(d6 d0 d1 d2 d3 d4 d5).getD k 0,?_,by simpa using h⟩;have hk2:k<(d6 d0 d1 d2 d3 d4 d5).length:=hlt;rw[show(d6 d0 d1 d2 d3 d4 d5).getD k 0=(d6 d0 d1 d2 d3 d4 d5)[k] by simp[hk2]];exact List.getElem_mem hk2)
  clear HD;have hc2:(k=0∧z=0)∨(k=1∧z=1)∨(k=2∧z=2)∨(k=3∧z=3)∨(k=4∧z=4)∨(k=5∧z=5):=af;clear hc hz hlt hk;rcases hc2 with⟨rfl,rfl⟩|⟨rfl,rfl⟩|⟨rfl,rfl⟩|⟨rfl,rfl⟩|⟨rfl,rfl⟩|⟨rfl,rfl⟩
  ·(have ix:∀ W,(Instr.index 89 (.agg #[bR d0,bR d1,bR d2,bR d3,bR d4,bR d5]) (bR 0)).run prog W= .ok (bR d0) W:=fun _=>by kernel_rfl);by_cases h1:d0< -9
   (·have e1:decide (d0< -9)=true:=aK;have HR:=aa (Mc.o (by show(decide (-9≤d0)&&decide (d0≤9))=false;simp;omega));clear h1;go_wp2_with fail;go_ret;exact⟨cK HR.o.symm,Sk.o⟩);have e1:decide (d0< -9)=false:=aK;by_cases h2:9<d0
   (·have e2:decide (9<d0)=true:=aI;have HR:=aa (Mc.o (by show(decide (-9≤d0)&&decide (d0≤9))=false;simp;omega));clear h1 h2;go_wp2_with fail;go_ret;exact⟨cK HR.o.symm,Sk.o⟩);have e2:decide (9<d0)=false:=aI;have HY:=aa (show((d6 d0 d1 d2 d3 d4 d5).take (0+1)).all (fun e=>decide (-9≤e)&&decide (e≤9))=true by
    rw[HT.o,HA.o];show(true&&(decide (-9≤d0)&&decide (d0≤9)))=true;simp;omega)
   clear h1 h2;go_wp2_with fail;go_roundw;(case rel=>exact⟨0+1,1,by omega,rfl,rfl,HY.o,HW.o⟩);(case measure=>simp[intOf])
  ·(have ix:∀ W,(Instr.index 89 (.agg #[bR d0,bR d1,bR d2,bR d3,bR d4,bR d5]) (bR 1)).run prog W= .ok (bR d1) W:=fun _=>by kernel_rfl);by_cases h1:d1< -9
   (·have e1:decide (d1< -9)=true:=aK;have HR:=aa (Mc.o (by show(decide (-9≤d1)&&decide (d1≤9))=false;simp;omega));clear h1;go_wp2_with fail;go_ret;exact⟨cK HR.o.symm,Sk.o⟩);have e1:decide (d1< -9)=false:=aK;by_cases h2:9<d1
   (·have e2:decide (9<d1)=true:=aI;have HR:=aa (Mc.o (by show(decide (-9≤d1)&&decide (d1≤9))=false;simp;omega));clear h1 h2;go_wp2_with fail;go_ret;exact⟨cK HR.o.symm,Sk.o⟩);have e2:decide (9<d1)=false:=aI;have HY:=aa (show((d6 d0 d1 d2 d3 d4 d5).take (1+1)).all (fun e=>decide (-9≤e)&&decide (e≤9))=true by
    rw[HT.o,HA.o];show(true&&(decide (-9≤d1)&&decide (d1≤9)))=true;simp;omega)
   clear h1 h2;go_wp2_with fail;go_roundw;(case rel=>exact⟨1+1,2,by omega,rfl,rfl,HY.o,HW.o⟩);(case measure=>simp[intOf])
  ·(have ix:∀ W,(Instr.index 89 (.agg #[bR d0,bR d1,bR d2,bR d3,bR d4,bR d5]) (bR 2)).run prog W= .ok (bR d2) W:=fun _=>by kernel_rfl);by_cases h1:d2< -9
   (·have e1:decide (d2< -9)=true:=aK;have HR:=aa (Mc.o (by show(decide (-9≤d2)&&decide (d2≤9))=false;simp;omega));clear h1;go_wp2_with fail;go_ret;exact⟨cK HR.o.symm,Sk.o⟩);have e1:decide (d2< -9)=false:=aK;by_cases h2:9<d2
   (·have e2:decide (9<d2)=true:=aI;have HR:=aa (Mc.o (by show(decide (-9≤d2)&&decide (d2≤9))=false;simp;omega));clear h1 h2;go_wp2_with fail;go_ret;exact⟨cK HR.o.symm,Sk.o⟩);have e2:decide (9<d2)=false:=aI;have HY:=aa (show((d6 d0 d1 d2 d3 d4 d5).take (2+1)).all (fun e=>decide (-9≤e)&&decide (e≤9))=true by
    rw[HT.o,HA.o];show(true&&(decide (-9≤d2)&&decide (d2≤9)))=true;simp;omega)
   clear h1 h2;go_wp2_with fail;go_roundw;(case rel=>exact⟨2+1,3,by omega,rfl,rfl,HY.o,HW.o⟩);(case measure=>simp[intOf])
  ·(have ix:∀ W,(Instr.index 89 (.agg #[bR d0,bR d1,bR d2,bR d3,bR d4,bR d5]) (bR 3)).run prog W= .ok (bR d3) W:=fun _=>by kernel_rfl);by_cases h1:d3< -9
   (·have e1:decide (d3< -9)=true:=aK;have HR:=aa (Mc.o (by show(decide (-9≤d3)&&decide (d3≤9))=false;simp;omega));clear h1;go_wp2_with fail;go_ret;exact⟨cK HR.o.symm,Sk.o⟩);have e1:decide (d3< -9)=false:=aK;by_cases h2:9<d3
   (·have e2:decide (9<d3)=true:=aI;have HR:=aa (Mc.o (by show(decide (-9≤d3)&&decide (d3≤9))=false;simp;omega));clear h1 h2;go_wp2_with fail;go_ret;exact⟨cK HR.o.symm,Sk.o⟩);have e2:decide (9<d3)=false:=aI;have HY:=aa (show((d6 d0 d1 d2 d3 d4 d5).take (3+1)).all (fun e=>decide (-9≤e)&&decide (e≤9))=true by
    rw[HT.o,HA.o];show(true&&(decide (-9≤d3)&&decide (d3≤9)))=true;simp;omega)
   clear h1 h2;go_wp2_with fail;go_roundw;(case rel=>exact⟨3+1,4,by omega,rfl,rfl,HY.o,HW.o⟩);(case measure=>simp[intOf])
  ·(have ix:∀ W,(Instr.index 89 (.agg #[bR d0,bR d1,bR d2,bR d3,bR d4,bR d5]) (bR 4)).run prog W= .ok (bR d4) W:=fun _=>by kernel_rfl);by_cases h1:d4< -9
   (·have e1:decide (d4< -9)=true:=aK;have HR:=aa (Mc.o (by show(decide (-9≤d4)&&decide (d4≤9))=false;simp;omega));clear h1;go_wp2_with fail;go_ret;exact⟨cK HR.o.symm,Sk.o⟩);have e1:decide (d4< -9)=false:=aK;by_cases h2:9<d4
   (·have e2:decide (9<d4)=true:=aI;have HR:=aa (Mc.o (by show(decide (-9≤d4)&&decide (d4≤9))=false;simp;omega));clear h1 h2;go_wp2_with fail;go_ret;exact⟨cK HR.o.symm,Sk.o⟩);have e2:decide (9<d4)=false:=aI;have HY:=aa (show((d6 d0 d1 d2 d3 d4 d5).take (4+1)).all (fun e=>decide (-9≤e)&&decide (e≤9))=true by
    rw[HT.o,HA.o];show(true&&(decide (-9≤d4)&&decide (d4≤9)))=true;simp;omega)
   clear h1 h2;go_wp2_with fail;go_roundw;(case rel=>exact⟨4+1,5,by omega,rfl,rfl,HY.o,HW.o⟩);(case measure=>simp[intOf])
  (have ix:∀ W,(Instr.index 89 (.agg #[bR d0,bR d1,bR d2,bR d3,bR d4,bR d5]) (bR 5)).run prog W= .ok (bR d5) W:=fun _=>by kernel_rfl);by_cases h1:d5< -9
  (·have e1:decide (d5< -9)=true:=aK;have HR:=aa (Mc.o (by show(decide (-9≤d5)&&decide (d5≤9))=false;simp;omega));clear h1;go_wp2_with fail;go_ret;exact⟨cK HR.o.symm,Sk.o⟩);have e1:decide (d5< -9)=false:=aK;by_cases h2:9<d5
  (·have e2:decide (9<d5)=true:=aI;have HR:=aa (Mc.o (by show(decide (-9≤d5)&&decide (d5≤9))=false;simp;omega));clear h1 h2;go_wp2_with fail;go_ret;exact⟨cK HR.o.symm,Sk.o⟩);have e2:decide (9<d5)=false:=aI;have HY:=aa (show((d6 d0 d1 d2 d3 d4 d5).take (5+1)).all (fun e=>decide (-9≤e)&&decide (e≤9))=true by
   rw[HT.o,HA.o];show(true&&(decide (-9≤d5)&&decide (d5≤9)))=true;simp;omega)
  clear h1 h2;go_wp2_with fail;go_roundw;(case rel=>exact⟨5+1,6,by omega,rfl,rfl,HY.o,HW.o⟩);(case measure=>simp[intOf])
 (obtain rfl:k=6:=by omega);obtain rfl:z=6:=hz;have HR:=aa (show R=true by rw[HD.o];exact HA.o);go_wp2_with fail;go_ret;exact⟨cK HR.o.symm,Sk.o⟩
theorem iH (p:UInt8→Bool):∀ l:List UInt8,l.take (jD p l)=l.takeWhile p∧l.drop (jD p l)=l.dropWhile p
 |[]=>⟨rfl,rfl⟩
 |c :: r=>by
  have ih:=iH p r;unfold jD;by_cases h:p c=true
  (·simp[h,ih.1,ih.2]);simp[h]
theorem VH (s:ByteArray) (a b:Nat) (hb:s.size≤b):(s.extract a b).data.toList=s.data.toList.drop a:=by
 simp only[ByteArray.data_extract,Array.toList_extract];rw[List.extract_eq_take_drop,List.take_of_length_le (by rw[List.length_drop,eA];omega)]
theorem CP (s:ByteArray) (b:Nat):(s.extract 0 b).data.toList=s.data.toList.take b:=by
 simp only[ByteArray.data_extract,Array.toList_extract];rw[List.extract_eq_take_drop];simp
def Qw (L:Bytes) (w:World) (e:Ending) (w':World):Prop:=
 ∃ x r,e= .returned (.tuple #[.agg #[bV x,bR (mY (L.dropWhile cQ)).1],bV r,.bool (!(L.takeWhile cQ).isEmpty)])∧x.data.toList=L.takeWhile cQ∧r.data.toList=(mY (L.dropWhile cQ)).2∧Below w w w'
theorem sA {L:Bytes} {w w':World} {e:Ending} (x r:ByteArray) (n:Int) (b:Bool) (he:e= .returned (.tuple #[.agg #[bV x,bR n],bV r,.bool b])) (hn:n=(mY (L.dropWhile cQ)).1) (hb:b= !(L.takeWhile cQ).isEmpty) (hx:x.data.toList=L.takeWhile cQ) (hr:r.data.toList=(mY (L.dropWhile cQ)).2) (hbel:Below w w w'):Qw L w e w':=by
 subst hn hb;exact⟨x,r,he,hx,hr,hbel⟩
theorem oK (p:UInt8→Bool) (l:List UInt8):decide (0<jD p l)= !(l.takeWhile p).isEmpty:=by
 have h:=(iH p l).1;have hl:=tq p l;rw[← h];cases hs:jD p l with
 |zero=>simp
 |succ n=>
  cases l with
  |nil=>simp[jD]at hs
  |cons a r=>simp
theorem Kj (s:ByteArray) (w:World) (hs:s.size≤1000000):Calls prog 163 #[bV s] w (Qw s.data.toList w):=by
 have vS:=eA s;have HSL:=aa vS;clear vS;go_enter func163,ntmps163;go_wp2_with fail;go_loopw [5] (fun i wr=>∃ k:Nat,k≤s.size∧i=bR (k:Int)∧Hid (∀ i,i<k→∀ c,s.data.toList[i]? =some c→cQ c=true)∧Hid (wr=w.alloc (.cells #[bV ⟨#[]⟩,bR 0] 175))) (fun i _=>s.size - (intOf i).toNat);(case atStart=>exact⟨0,Nat.zero_le _,rfl,fun i hi=>absurd hi (Nat.not_lt_zero _),rfl⟩);obtain⟨k,hk,rfl,HA,HW⟩:=hrel;by_cases hlt:k<s.size
 ·have B9:s.data.toList[k]? =some s[k]:=(by rw[List.getElem?_eq_getElem (by rw[HSL.o];exact hlt)];rfl);have HG:=aa B9;clear B9;have hin:=fun w=>Kg s[k] w;cases hq:cQ s[k]with
  |true=>
   have HQ:=aa hq;rw[hq]at hin;have HI:=aa hin;clear hq hin;go_wp2_with (go_at_call 196;refine(HI.o _).mono ?_;rintro e w' ⟨rfl,rfl⟩);go_roundw;case rel=>
    refine⟨k+1,by omega,by go_num,fun i hi c hc=>?_,HW.o⟩;by_cases e:i=k
    (·subst e;rw[HG.o]at hc;cases hc;exact HQ.o);exact HA.o i af c hc
   (case measure=>simp[intOf];omega)
  |false=>
   have HN:=aa (show jD cQ s.data.toList=k from kW cQ s.data.toList k HA.o (by rw[HSL.o];omega) (fun c hc=>by rw[HG.o]at hc;cases hc;exact hq));rw[hq]at hin;have HI:=aa hin;clear hq hin;have hw:=HW.o;subst hw;have hsz:0<(s.extract k s.size).size:=aah;have hlk:0<s.size - k:=af;have hrl:(s.extract k s.size).data.toList=s.data.toList.drop k:=VH s k s.size (Nat.le_refl _);have hE:(s.extract k s.size).toList.isEmpty=false:=by
    rw[fo];unfold fR;simpa using (by omega:¬(s.extract k s.size).size=0)
   have htl:=uw (s.extract k s.size) hsz;have uU:=aa htl;have Sm:=aa hrl;clear hrl htl HW;have hc:=UInt8.toNat_lt ((s.extract k s.size)[0]'hsz);by_cases h50:50≤((s.extract k s.size)[0]'hsz).toNat
   ·have e50:decide ((50:Int)≤((((s.extract k s.size)[0]'hsz).toNat:Nat):Int))=true:=aq;by_cases h57:((s.extract k s.size)[0]'hsz).toNat≤57
    ·have e57:decide (((((s.extract k s.size)[0]'hsz).toNat:Nat):Int)≤57)=true:=aq;have H59:=aa (And.intro h50 h57);have hlk1:(1:Int)≤((s.size - k:Nat):Int):=af;have w1:((((s.extract k s.size)[0]'hsz).toNat:Int) - 48) % 256=(((s.extract k s.size)[0]'hsz).toNat:Int) - 48:=af;have w2:IntKind.u8.wrap ((((s.extract k s.size)[0]'hsz).toNat:Int) - 48)=(((s.extract k s.size)[0]'hsz).toNat:Int) - 48:=(by rw[IntKind.wrap_u8];omega);have w3:IntKind.i64.wrap ((((s.extract k s.size)[0]'hsz).toNat:Int) - 48)=(((s.extract k s.size)[0]'hsz).toNat:Int) - 48:=fC af;have w4:wrap64 ((((s.extract k s.size)[0]'hsz).toNat:Int) - 48)=(((s.extract k s.size)[0]'hsz).toNat:Int) - 48:=(by unfold wrap64;omega);clear h50 h57;go_wp2_with (go_at_call 196;refine(HI.o _).mono ?_;rintro e w' ⟨rfl,rfl⟩);go_region_held3 (fun w'=>bW w' (w+1) 0 (bV (s.extract 0 k))) (go_keep) (fail);go_wp2;have hdw:s.data.toList.dropWhile cQ=(s.extract k s.size)[0]'hsz :: ((s.extract k s.size).extract 1 (s.extract k s.size).size).data.toList:=by
      rw[← (iH cQ s.data.toList).2,HN.o, ← Sm.o];exact uU.o
     have hyes:(50:UInt8)≤(s.extract k s.size)[0]'hsz∧(s.extract k s.size)[0]'hsz≤(57:UInt8):=by
      have:=H59.o;exact⟨UInt8.le_iff_toNat_le.2 (by simpa using this.1),UInt8.le_iff_toNat_le.2 (by simpa using this.2)⟩
     have hex:mY (s.data.toList.dropWhile cQ)=((((s.extract k s.size)[0]'hsz).toNat:Int) - 48,((s.extract k s.size).extract 1 (s.extract k s.size).size).data.toList):=by
      rw[hdw];unfold mY;simp only[];rw[if_pos (by simpa using hyes)]
     have hse:(s.extract k s.size).size=s.size - k:=aah;exact bodyPost_ret (v:= .tuple #[.agg #[bV (s.extract 0 k),bR ((((s.extract k s.size)[0]'hsz).toNat:Int) - 48)],bV ((s.extract k s.size).extract 1 (s.size - k)),.bool (decide (0<k))]) aaa rfl (sA (s.extract 0 k) ((s.extract k s.size).extract 1 (s.size - k)) _ (decide (0<k)) rfl (by rw[hex]) (by rw[← oK,HN.o]) aar (by rw[hex,hse]) (Below.drew (((Below.refl _ w).alloc (Nat.le_refl _) _).alloc aj _)))
    have e57:decide (((((s.extract k s.size)[0]'hsz).toNat:Nat):Int)≤57)=false:=aq;have H59:=aa h57;clear h50 h57;go_wp2_with (go_at_call 196;refine(HI.o _).mono ?_;rintro e w' ⟨rfl,rfl⟩);have hno:¬((50:UInt8)≤(s.extract k s.size)[0]'hsz∧(s.extract k s.size)[0]'hsz≤(57:UInt8)):=fun h=>by
     have a1:=UInt8.le_iff_toNat_le.1 h.1;have a2:=UInt8.le_iff_toNat_le.1 h.2;have:=H59.o;simp at a1 a2;omega
    have hdw:s.data.toList.dropWhile cQ=(s.extract k s.size)[0]'hsz :: ((s.extract k s.size).extract 1 (s.extract k s.size).size).data.toList:=by
     rw[← (iH cQ s.data.toList).2,HN.o, ← Sm.o];exact uU.o
    have hex:mY (s.data.toList.dropWhile cQ)=(1,s.data.toList.dropWhile cQ):=by
     rw[hdw];unfold mY;simp only[];rw[if_neg (by simpa using hno)]
    exact bodyPost_ret (v:= .tuple #[.agg #[bV (s.extract 0 k),bR 1],bV (s.extract k s.size),.bool (decide (0<k))]) aaa rfl (sA (s.extract 0 k) (s.extract k s.size) 1 (decide (0<k)) rfl (by rw[hex]) (by rw[← oK,HN.o]) aar (by rw[hex,Sm.o, ← (iH cQ s.data.toList).2,HN.o]) (((Below.refl _ w).alloc (Nat.le_refl _) _).alloc aj _))
   have e50:decide ((50:Int)≤((((s.extract k s.size)[0]'hsz).toNat:Nat):Int))=false:=aq;have H59:=aa h50;clear h50;go_wp2_with (go_at_call 196;refine(HI.o _).mono ?_;rintro e w' ⟨rfl,rfl⟩);have hno:¬((50:UInt8)≤(s.extract k s.size)[0]'hsz∧(s.extract k s.size)[0]'hsz≤(57:UInt8)):=fun h=>by
    have a1:=UInt8.le_iff_toNat_le.1 h.1;have a2:=UInt8.le_iff_toNat_le.1 h.2;have:=H59.o;simp at a1 a2;omega
   have hdw:s.data.toList.dropWhile cQ=(s.extract k s.size)[0]'hsz :: ((s.extract k s.size).extract 1 (s.extract k s.size).size).data.toList:=by
    rw[← (iH cQ s.data.toList).2,HN.o, ← Sm.o];exact uU.o
   have hex:mY (s.data.toList.dropWhile cQ)=(1,s.data.toList.dropWhile cQ):=by
    rw[hdw];unfold mY;simp only[];rw[if_neg (by simpa using hno)]
   exact bodyPost_ret (v:= .tuple #[.agg #[bV (s.extract 0 k),bR 1],bV (s.extract k s.size),.bool (decide (0<k))]) aaa rfl (sA (s.extract 0 k) (s.extract k s.size) 1 (decide (0<k)) rfl (by rw[hex]) (by rw[← oK,HN.o]) aar (by rw[hex,Sm.o, ← (iH cQ s.data.toList).2,HN.o]) (((Below.refl _ w).alloc (Nat.le_refl _) _).alloc aj _))
 (obtain rfl:k=s.size:=by omega);have hw:=HW.o;subst hw;have hE:(s.extract s.size s.size).toList.isEmpty=true:=by
  rw[fo];unfold fR;simp
 clear HW;go_wp2_with fail;have hN:jD cQ s.data.toList=s.size:=kW cQ s.data.toList s.size HA.o (by rw[HSL.o];omega) (fun c hc=>by rw[List.getElem?_eq_none (by rw[HSL.o];omega)]at hc;cases hc);have hdw:s.data.toList.dropWhile cQ=[]:=by
  rw[← (iH cQ s.data.toList).2,hN];exact List.drop_of_length_le (by rw[HSL.o];omega)
 exact bodyPost_ret (v:= .tuple #[.agg #[bV s,bR 1],bV ByteArray.empty,.bool (decide (0<s.size))]) aaa rfl (sA s ByteArray.empty 1 (decide (0<s.size)) rfl (by rw[hdw];rfl) (by rw[← oK,hN]) (by rw[← (iH cQ s.data.toList).1,hN,List.take_of_length_le (by rw[HSL.o];omega)]) (by rw[hdw];rfl) (((Below.refl _ w).alloc (Nat.le_refl _) _).alloc aj _))
theorem VI (s:Bytes):(mY s).2.length≤s.length:=by
 unfold mY;split
 (·simp);split<;>simp
theorem CQ (s:Bytes):1≤(mY s).1∧(mY s).1≤9:=by
 unfold mY;split
 (·simp);split
 ·next h=>
  simp only[Bool.and_eq_true,decide_eq_true_eq]at h;have a1:=UInt8.le_iff_toNat_le.1 h.1;have a2:=UInt8.le_iff_toNat_le.1 h.2;simp at a1 a2 ⊢;omega
 simp
theorem uW (p:UInt8→Bool):∀ l:List UInt8,(l.dropWhile p).length≤l.length
 |[]=>by simp
 |a :: l=>by
  have:=uW p l;rw[List.dropWhile_cons];split
  (·simp;omega);simp
theorem xp (r:Bytes):(mY (r.dropWhile cQ)).2.length≤r.length:=
 Nat.le_trans (VI _) (uW _ _)
theorem zW:∀ (k k':Nat) (s:Bytes),s.length≤k→s.length≤k'→qI k s=qI k' s
 |0,0,s,_,_=>rfl
 |0,k'+1,s,h,_=>by
  have:s=[]:=List.eq_nil_of_length_eq_zero af;subst this;rfl
 |k+1,0,s,_,h=>by
  have:s=[]:=List.eq_nil_of_length_eq_zero af;subst this;rfl
 |k+1,k'+1,[],_,_=>rfl
 |k+1,k'+1,g :: r,h,h'=>by
  have hd:=xp r;simp only[List.length_cons]at h h';have ih:=zW k k' (mY (r.dropWhile cQ)).2 af af;simp only[qI,ih]
def iX (s:Bytes):Option (List iZ):=qI s.length s
theorem yO {k:Nat} {s:Bytes} (h:s.length≤k):qI k s=iX s:=zW k s.length s h (Nat.le_refl _)
theorem CR:iX []=some []:=rfl
theorem zX (g:UInt8) (r:Bytes):iX (g :: r)=if(r.takeWhile cQ).isEmpty|| !(g==42||g==47)then none else match iX (mY (r.dropWhile cQ)).2 with|none=>none|some l=>some (⟨r.takeWhile cQ,if g=47 then -(mY (r.dropWhile cQ)).1 else(mY (r.dropWhile cQ)).1⟩ :: l):=by
 show qI (r.length+1) (g :: r)=_;have hd:=xp r;simp only[qI,yO hd];congr 1;simp[List.isEmpty_iff]
def yP (x:iZ):Prop:=x.word≠[]∧(-9≤x.exp∧x.exp≤9)∧x.exp≠0
def FL:Rel iZ:=jX 2 (fun x=>[bV ⟨x.word.toArray⟩,bR x.exp]) (fun _=>rfl) (fun x v hv=>by simp at hv;rcases hv with rfl|rfl<;>rfl)
theorem Bt (x:ByteArray) {l:List UInt8} (h:x.data.toList=l):x=⟨l.toArray⟩:=dA aO
def Sn (s:Bytes) (w:World) (e:Ending) (w':World):Prop:=
 ∃ A c xs,e= .returned (.tuple #[bQ A (xs:List iZ).length c,.bool (gI s).isSome])∧Sq FL w' Any A xs∧(∀ l,gI s=some l→xs=l)∧(∀ x∈xs,yP x)∧xs.length≤41∧Below w w w'
def strOf:Value→ByteArray| .string s=>s|_=>⟨#[]⟩
def uy (s:Bytes) (w wr:World) (v:Value) (rs:ByteArray) (xs:List iZ):Prop:=
 cV FL 175 w.heap.size wr Any v xs∧(gI s=match iX rs.data.toList with|none=>none|some l=>some (xs++l))∧(∀ x∈xs,yP x)∧xs.length+rs.size≤41∧Below w w wr
theorem uA:(Tryz.prog.info? 175).map (fun i=>(i.zero,i.size,i.bytes))=some (some (.agg #[bV ByteArray.empty,bR 0]),2,24):=by kernel_rfl
theorem M_ (s:ByteArray) (w:World) (hs:s.size≤maxLen):Calls prog 115 #[.string s] w (Sn s.data.toList w):=by
 have vS:=eA s;by_cases h0:s.size=0
 (·have e0:s.data.toList=[]:=List.eq_nil_of_length_eq_zero af;have e1:s=⟨#[]⟩:=ByteArray.ext (by rw[← Array.toList_inj];exact e0);subst e1;clear e0 h0 hs vS;go_enter func115,ntmps115;go_wp2_with fail;go_ret2;exact⟨none,0,[],rfl,Sq.nil,fun l h=>(by cases h;rfl),fun x hx=>(by simp at hx),by simp,Below.refl _ _⟩);have hE:s.toList.isEmpty=false:=by
  rw[fo];unfold fR;simpa using h0
 have hE2:(s.toList==[])=false:=(by rw[nil_eq];unfold fR;simpa using h0);by_cases h40:40<s.size
 ·have HN:=aa (show gI s.data.toList=none by
   unfold gI;cases hd:s.data.toList with
   |nil=>rw[hd]at vS;simp at vS;omega
   |cons c r=>
    simp only[];rw[if_neg (by rw[← hd,vS];omega)])
  have h4:decide ((40:Int)<(s.size:Int))=true:=aq;clear vS;go_enter func115,ntmps115;go_wp2_with fail;go_ret2;refine⟨none,0,[],by rw[HN.o];rfl,Sq.nil,fun l h=>aat,fun x hx=>(by simp at hx),by simp,Below.refl _ _⟩
 have h4:decide ((40:Int)<(s.size:Int))=false:=aq;obtain⟨c,r,hcr⟩:∃ c r,s.data.toList=c :: r:=by
  cases hd:s.data.toList with
  |nil=>rw[hd]at vS;simp at vS;omega
  |cons c r=>exact⟨c,r,rfl⟩
 have hlen:r.length+1=s.size:=(by rw[hcr]at vS;simpa using vS);have hib:gI s.data.toList=if c=49 then iX r else iX (42 :: s.data.toList):=by
  rw[hcr];unfold gI;simp only[];rw[if_pos aq];split
  (·exact yO af);exact yO aq
 have YO:=fun W=>Any.strings_CutPrefix Zs s ⟨#[49]⟩ W;change ∀ W,Calls prog 162 #[.string s,.string ⟨#[49]⟩] W fun e w'=>e= .returned (.tuple #[.string ⟨(Lib.trimPrefix s.data.toList [49]).toArray⟩,.bool (Lib.hasPrefix s.data.toList [49])])∧w'=W at YO;by_cases h49:c=49
 ·obtain⟨R0,G4⟩:∃ R0:ByteArray,R0=⟨r.toArray⟩:=⟨_,rfl⟩;(have hR0:R0.size≤41:=by rw[G4];show r.toArray.size≤41;simp;omega);have ju:=aa (show gI s.data.toList=iX R0.data.toList by rw[hib,if_pos h49,G4]);have e1:Lib.hasPrefix s.data.toList [49]=true:=(by rw[hcr,h49];simp[Lib.hasPrefix]);have e2:(⟨(Lib.trimPrefix s.data.toList [49]).toArray⟩:ByteArray)=R0:=(by rw[hcr,h49,G4];simp[Lib.trimPrefix,Lib.hasPrefix]);rw[e1,e2]at YO;have HC:=aa YO;clear YO e1 e2 hib G4 hcr hlen vS h49;go_enter func115,ntmps115;go_wp2_with (go_at_call 162;refine(HC.o _).mono ?_;rintro e w' ⟨rfl,hw⟩;rw[hw];clear hw);go_loopw [4,5] (fun v t wr=>∃ (rs:ByteArray) (xs:List iZ),t= .string rs∧rs.size≤41∧Hid (uy s.data.toList w wr v rs xs)) (fun _ t _=>(strOf t).size);(case atStart=>exact⟨R0,[],rfl,hR0,cV.pW,by rw[ju.o];cases iX R0.data.toList<;>rfl,fun x hx=>by simp at hx,by simpa using hR0,Below.refl _ _⟩);obtain⟨rs,xs,rfl,hrs,HI⟩:=hrel;have hwr:=HI.o.2.2.2.2.size;by_cases he:rs.size=0
  (·have hEr:rs.toList.isEmpty=true:=aal;have hnil:rs.data.toList=[]:=List.eq_nil_of_length_eq_zero (by rw[eA];exact he);obtain⟨A,c,rfl,hAc,_⟩:=HI.o.1.slice;have HR:=aa (show gI s.data.toList=some xs by have:=HI.o.2.1;rw[hnil]at this;simpa [CR]using this);clear hnil he;go_wp2_with fail;go_ret2;refine⟨A,c,xs,by rw[HR.o];rfl,HI.o.1.sq (fun _ _ _=>trivial),fun l h=>by rw[HR.o]at h;exact Option.some.inj h,HI.o.2.2.1,by have:=HI.o.2.2.2.1;omega,HI.o.2.2.2.2⟩);have hpos:0<rs.size:=af;have hEr:rs.toList.isEmpty=false:=aal;have htl:=uw rs hpos;have hsz1:(rs.extract 1 rs.size).size+1=rs.size:=aah;have HT:=aa htl;have HCut:=aa (fun W=>Kj (rs.extract 1 rs.size) W af);have zK:=aa (show gI s.data.toList=match iX (rs[0] :: (rs.extract 1 rs.size).data.toList)with|none=>none|some l=>some (xs++l) by have:=HI.o.2.1;rw[htl]at this;exact this);have hlk:(1:Int)≤(rs.size:Int):=af;clear htl he;go_wp2_with fail;refine(HCut.o _).mono ?_;rintro e w1 ⟨x,r2,rfl,hx,hr2,hb1⟩;have eJ:=aa hb1;have hw1:=hb1.size;have hzb:=CQ ((rs.extract 1 rs.size).data.toList.dropWhile cQ);have J1:=xp (rs.extract 1 rs.size).data.toList;have hr2l:r2.size<rs.size:=(by rw[← eA,hr2];rw[eA]at J1;omega);have Na:=aa (zX rs[0] (rs.extract 1 rs.size).data.toList);have HX:=aa hx;have G5:=aa hr2;generalize hT:(rs.extract 1 rs.size).data.toList=T at*;generalize hz:(mY (T.dropWhile cQ)).1=z at*;generalize hok:(T.takeWhile cQ).isEmpty=okb at*;have Md:=aa hok;have HZ:=aa hz;have q42:((rs[0].toNat:Int)==42)=(rs[0]==42):=aQ;have VJ:((rs[0].toNat:Int)==47)=(rs[0]==47):=aQ;have Nb:((rs[0].toNat:Int) != 42)= !(rs[0]==42):=(by unfold bne;rw[q42]);have G6:((rs[0].toNat:Int) != 47)= !(rs[0]==47):=(by unfold bne;rw[VJ]);clear hx hr2 hb1 hT hz hok J1;cases okb with
  |true=>
   have HN:=aa (show gI s.data.toList=none by rw[zK.o,Na.o];simp);clear q42 VJ Nb G6;go_wp2_with fail;go_ret2;exact⟨none,0,[],by rw[HN.o];rfl,Sq.nil,fun l h=>aat,fun x hx=>(by simp at hx),by simp,HI.o.2.2.2.2.trans ((eJ.o.mono hwr).alloc af _)⟩
  |false=>
   cases G7:(rs[0]==42)with
   |true=>
    rw[G7]at q42 Nb;have yQ:(rs[0]==47)=false:=by
     rw[Bool.eq_false_iff];intro h;rw[eq_of_beq G7]at h;exact absurd (eq_of_beq h) ag
    rw[yQ]at VJ G6;have HIT:=aa (show gI s.data.toList=match iX r2.data.toList with|none=>none|some l=>some ((xs++[⟨x.data.toList,z⟩])++l) by
     rw[zK.o,Na.o,G7,yQ,G5.o,HX.o];simp only[Bool.or_true,Bool.true_or,Bool.not_true,Bool.or_false,Bool.false_eq_true,if_false];cases iX (mY (T.dropWhile cQ)).2 with
     |none=>rfl
     |some l=>
      (have h9:¬rs[0]=47:=fun e=>by rw[e]at yQ;simp at yQ);simp[h9])
    have iM:Below wr wr ((w1.alloc (.cells #[.string x,bR z] 175)).alloc (.cells #[.string x,bR z] 175)):=(eJ.o.alloc hw1 _).alloc aq _;have CS:=aa iM;obtain⟨css,k1,k2,k3,k4⟩:=HI.o.1.bU iM;have ld:=aa k2;have rK:=aa k3;have Me:=aa k4;have mH:=fun g hg=>(cV.lt HI.o.1 g hg).1;have G0:=aa mH;(have hxl:xs.length≤41:=by have:=HI.o.2.2.2.1;omega);obtain⟨i0,ug,hz0,hz1,hz2⟩:=info_parts uA;clear G7 yQ iM k2 k3 k4 mH;go_wp2_with (at_builtin;refine eZ _ rfl (.tmp 52) (.tmp 54) _ rfl w 175 i0 _ 2 24 Tryz.underlying170 ug hz0 hz1 hz2 rfl af _ xs.length css.flatten rfl ld.o (w1.heap.size+1+1) (some ⟨↑w1+1,0,none⟩) 1 1 [.string x,bR z] rfl ?c2 ?c6 ?c3 ?c4 ?c5 ?_);(case c2=>simpa using vv (w1.alloc (.cells #[.string x,bR z] 175)) [.string x,bR z] 175 1 2 rfl);(case c6=>intro u hu;simp at hu;rcases hu with rfl|rfl<;>rfl);(case c3=>unfold maxLen;omega);(case c4=>omega);(case c5=>simp;omega);intro v9 w9 qu rI yG;have HM9:=aa (cV.more (R:=FL) (S:=Any) (news:=[⟨x.data.toList,z⟩]) (EJ:=[[.string x,bR z]]) (xs:=xs) k1 rK.o Me.o rfl (fun j cs y hc hy=>by
     (have hj:j=0:=by have:=(List.getElem?_eq_some_iff.1 hc).1;simpa using this);subst hj;simp at hc hy;subst hc hy;show[Value.string x,bR z]=[Value.string ⟨x.data.toList.toArray⟩,bR z];rw[← Bt x rfl]) rfl rfl qu rI (by simpa using yG))
    have oB:=aa (show Below w w w9 from(HI.o.2.2.2.2.trans (CS.o.mono hwr)).grown rI (Nat.le_trans hwr CS.o.size) (fun g hg=>G0.o g hg));have CT:∀ y∈xs++[(⟨x.data.toList,z⟩:iZ)],yP y:=by
     intro y hy;rcases List.mem_append.1 hy with hy|hy
     (·exact HI.o.2.2.1 y hy);rw[List.mem_singleton.1 hy];refine⟨?_,by simp;omega,by simp;omega⟩;intro h;have h2:x.data.toList=[]:=h;have:=Md.o;rw[← HX.o,h2]at this;cases this
    have Nc:=aa (show uy s.data.toList w w9 v9 r2 (xs++[(⟨x.data.toList,z⟩:iZ)])from⟨HM9.o,HIT.o,CT,by have:=HI.o.2.2.2.1;simp;omega,oB.o⟩);clear CT;clear qu rI yG;go_wp2_with fail;go_roundw;(case rel=>exact⟨r2,xs++[(⟨x.data.toList,z⟩:iZ)],rfl,by omega,Nc.o⟩);(case measure=>simp[strOf];omega)
   |false=>
    rw[G7]at q42 Nb;cases yQ:(rs[0]==47)with
    |true=>
     rw[yQ]at VJ G6;have hneg:IntKind.i64.wrap (-z)=-z:=fC af;have HIT:=aa (show gI s.data.toList=match iX r2.data.toList with|none=>none|some l=>some ((xs++[⟨x.data.toList,(-z)⟩])++l) by
      rw[zK.o,Na.o,G7,yQ,G5.o,HX.o];simp only[Bool.or_true,Bool.true_or,Bool.not_true,Bool.or_false,Bool.false_eq_true,if_false];cases iX (mY (T.dropWhile cQ)).2 with
      |none=>rfl
      |some l=>
       have h9:rs[0]=47:=eq_of_beq yQ;simp[h9])
     have iM:Below wr wr ((w1.alloc (.cells #[.string x,bR (-z)] 175)).alloc (.cells #[.string x,bR (-z)] 175)):=(eJ.o.alloc hw1 _).alloc aq _;have CS:=aa iM;obtain⟨css,k1,k2,k3,k4⟩:=HI.o.1.bU iM;have ld:=aa k2;have rK:=aa k3;have Me:=aa k4;have mH:=fun g hg=>(cV.lt HI.o.1 g hg).1;have G0:=aa mH;(have hxl:xs.length≤41:=by have:=HI.o.2.2.2.1;omega);obtain⟨i0,ug,hz0,hz1,hz2⟩:=info_parts uA;clear G7 yQ iM k2 k3 k4 mH;go_wp2_with (at_builtin;refine eZ _ rfl (.tmp 52) (.tmp 54) _ rfl w 175 i0 _ 2 24 Tryz.underlying170 ug hz0 hz1 hz2 rfl af _ xs.length css.flatten rfl ld.o (w1.heap.size+1+1) (some ⟨↑w1+1,0,none⟩) 1 1 [.string x,bR (-z)] rfl ?c2 ?c6 ?c3 ?c4 ?c5 ?_);(case c2=>simpa using vv (w1.alloc (.cells #[.string x,bR (-z)] 175)) [.string x,bR (-z)] 175 1 2 rfl);(case c6=>intro u hu;simp at hu;rcases hu with rfl|rfl<;>rfl);(case c3=>unfold maxLen;omega);(case c4=>omega);(case c5=>simp;omega);intro v9 w9 qu rI yG;have HM9:=aa (cV.more (R:=FL) (S:=Any) (news:=[⟨x.data.toList,(-z)⟩]) (EJ:=[[.string x,bR (-z)]]) (xs:=xs) k1 rK.o Me.o rfl (fun j cs y hc hy=>by
      (have hj:j=0:=by have:=(List.getElem?_eq_some_iff.1 hc).1;simpa using this);subst hj;simp at hc hy;subst hc hy;show[Value.string x,bR (-z)]=[Value.string ⟨x.data.toList.toArray⟩,bR (-z)];rw[← Bt x rfl]) rfl rfl qu rI (by simpa using yG))
     have oB:=aa (show Below w w w9 from(HI.o.2.2.2.2.trans (CS.o.mono hwr)).grown rI (Nat.le_trans hwr CS.o.size) (fun g hg=>G0.o g hg));have CT:∀ y∈xs++[(⟨x.data.toList,(-z)⟩:iZ)],yP y:=by
      intro y hy;rcases List.mem_append.1 hy with hy|hy
      (·exact HI.o.2.2.1 y hy);rw[List.mem_singleton.1 hy];refine⟨?_,by simp;omega,by simp;omega⟩;intro h;have h2:x.data.toList=[]:=h;have:=Md.o;rw[← HX.o,h2]at this;cases this
     have Nc:=aa (show uy s.data.toList w w9 v9 r2 (xs++[(⟨x.data.toList,(-z)⟩:iZ)])from⟨HM9.o,HIT.o,CT,by have:=HI.o.2.2.2.1;simp;omega,oB.o⟩);clear CT;clear qu rI yG;go_wp2_with fail;go_roundw;(case rel=>exact⟨r2,xs++[(⟨x.data.toList,(-z)⟩:iZ)],rfl,by omega,Nc.o⟩);(case measure=>simp[strOf];omega)
    |false=>
     rw[yQ]at VJ G6;have HN:=aa (show gI s.data.toList=none by rw[zK.o,Na.o,G7,yQ];simp);clear G7 yQ;go_wp2_with fail;go_ret2;exact⟨none,0,[],by rw[HN.o];rfl,Sq.nil,fun l h=>aat,fun x hx=>(by simp at hx),by simp,HI.o.2.2.2.2.trans ((eJ.o.mono hwr).alloc af _)⟩
 obtain⟨R0,G4⟩:∃ R0:ByteArray,R0=(⟨#[42]⟩:ByteArray)++s:=⟨_,rfl⟩;(have hR0:R0.size≤41:=by rw[G4,ByteArray.size_append];show 1+s.size≤41;omega);have ju:=aa (show gI s.data.toList=iX R0.data.toList by rw[hib,if_neg h49,G4];simp[ByteArray.data_append]);(have e1:Lib.hasPrefix s.data.toList [49]=false:=by rw[hcr];simp only[Lib.hasPrefix,List.isPrefixOf];simp;exact fun h=>h49 (Eq.symm h));rw[e1]at YO;have HC:=aa YO;clear YO e1 hib hcr hlen vS h49;go_enter func115,ntmps115;go_wp2_with (go_at_call 162;refine(HC.o _).mono ?_;rintro e w' ⟨rfl,hw⟩;rw[hw];clear hw);rw[← G4];clear G4;go_loopw [4,5] (fun v t wr=>∃ (rs:ByteArray) (xs:List iZ),t= .string rs∧rs.size≤41∧Hid (uy s.data.toList w wr v rs xs)) (fun _ t _=>(strOf t).size);(case atStart=>exact⟨R0,[],rfl,hR0,cV.pW,by rw[ju.o];cases iX R0.data.toList<;>rfl,fun x hx=>by simp at hx,by simpa using hR0,Below.refl _ _⟩);obtain⟨rs,xs,rfl,hrs,HI⟩:=hrel;have hwr:=HI.o.2.2.2.2.size;by_cases he:rs.size=0
 (·have hEr:rs.toList.isEmpty=true:=aal;have hnil:rs.data.toList=[]:=List.eq_nil_of_length_eq_zero (by rw[eA];exact he);obtain⟨A,c,rfl,hAc,_⟩:=HI.o.1.slice;have HR:=aa (show gI s.data.toList=some xs by have:=HI.o.2.1;rw[hnil]at this;simpa [CR]using this);clear hnil he;go_wp2_with fail;go_ret2;refine⟨A,c,xs,by rw[HR.o];rfl,HI.o.1.sq (fun _ _ _=>trivial),fun l h=>by rw[HR.o]at h;exact Option.some.inj h,HI.o.2.2.1,by have:=HI.o.2.2.2.1;omega,HI.o.2.2.2.2⟩);have hpos:0<rs.size:=af;have hEr:rs.toList.isEmpty=false:=aal;have htl:=uw rs hpos;have hsz1:(rs.extract 1 rs.size).size+1=rs.size:=aah;have HT:=aa htl;have HCut:=aa (fun W=>Kj (rs.extract 1 rs.size) W af);have zK:=aa (show gI s.data.toList=match iX (rs[0] :: (rs.extract 1 rs.size).data.toList)with|none=>none|some l=>some (xs++l) by have:=HI.o.2.1;rw[htl]at this;exact this);have hlk:(1:Int)≤(rs.size:Int):=af;clear htl he;go_wp2_with fail;refine(HCut.o _).mono ?_;rintro e w1 ⟨x,r2,rfl,hx,hr2,hb1⟩;have eJ:=aa hb1;have hw1:=hb1.size;have hzb:=CQ ((rs.extract 1 rs.size).data.toList.dropWhile cQ);have J1:=xp (rs.extract 1 rs.size).data.toList;have hr2l:r2.size<rs.size:=(by rw[← eA,hr2];rw[eA]at J1;omega);have Na:=aa (zX rs[0] (rs.extract 1 rs.size).data.toList);have HX:=aa hx;have G5:=aa hr2;generalize hT:(rs.extract 1 rs.size).data.toList=T at*;generalize hz:(mY (T.dropWhile cQ)).1=z at*;generalize hok:(T.takeWhile cQ).isEmpty=okb at*;have Md:=aa hok;have HZ:=aa hz;have q42:((rs[0].toNat:Int)==42)=(rs[0]==42):=aQ;have VJ:((rs[0].toNat:Int)==47)=(rs[0]==47):=aQ;have Nb:((rs[0].toNat:Int) != 42)= !(rs[0]==42):=(by unfold bne;rw[q42]);have G6:((rs[0].toNat:Int) != 47)= !(rs[0]==47):=(by unfold bne;rw[VJ]);clear hx hr2 hb1 hT hz hok J1;cases okb with
 |true=>
  have HN:=aa (show gI s.data.toList=none by rw[zK.o,Na.o];simp);clear q42 VJ Nb G6;go_wp2_with fail;go_ret2;exact⟨none,0,[],by rw[HN.o];rfl,Sq.nil,fun l h=>aat,fun x hx=>(by simp at hx),by simp,HI.o.2.2.2.2.trans ((eJ.o.mono hwr).alloc af _)⟩
 |false=>
  cases G7:(rs[0]==42)with
  |true=>
   rw[G7]at q42 Nb;have yQ:(rs[0]==47)=false:=by
    rw[Bool.eq_false_iff];intro h;rw[eq_of_beq G7]at h;exact absurd (eq_of_beq h) ag
   rw[yQ]at VJ G6;have HIT:=aa (show gI s.data.toList=match iX r2.data.toList with|none=>none|some l=>some ((xs++[⟨x.data.toList,z⟩])++l) by
    rw[zK.o,Na.o,G7,yQ,G5.o,HX.o];simp only[Bool.or_true,Bool.true_or,Bool.not_true,Bool.or_false,Bool.false_eq_true,if_false];cases iX (mY (T.dropWhile cQ)).2 with
    |none=>rfl
    |some l=>
     (have h9:¬rs[0]=47:=fun e=>by rw[e]at yQ;simp at yQ);simp[h9])
   have iM:Below wr wr ((w1.alloc (.cells #[.string x,bR z] 175)).alloc (.cells #[.string x,bR z] 175)):=(eJ.o.alloc hw1 _).alloc aq _;have CS:=aa iM;obtain⟨css,k1,k2,k3,k4⟩:=HI.o.1.bU iM;have ld:=aa k2;have rK:=aa k3;have Me:=aa k4;have mH:=fun g hg=>(cV.lt HI.o.1 g hg).1;have G0:=aa mH;(have hxl:xs.length≤41:=by have:=HI.o.2.2.2.1;omega);obtain⟨i0,ug,hz0,hz1,hz2⟩:=info_parts uA;clear G7 yQ iM k2 k3 k4 mH;go_wp2_with (at_builtin;refine eZ _ rfl (.tmp 52) (.tmp 54) _ rfl w 175 i0 _ 2 24 Tryz.underlying170 ug hz0 hz1 hz2 rfl af _ xs.length css.flatten rfl ld.o (w1.heap.size+1+1) (some ⟨↑w1+1,0,none⟩) 1 1 [.string x,bR z] rfl ?c2 ?c6 ?c3 ?c4 ?c5 ?_);(case c2=>simpa using vv (w1.alloc (.cells #[.string x,bR z] 175)) [.string x,bR z] 175 1 2 rfl);(case c6=>intro u hu;simp at hu;rcases hu with rfl|rfl<;>rfl);(case c3=>unfold maxLen;omega);(case c4=>omega);(case c5=>simp;omega);intro v9 w9 qu rI yG;have HM9:=aa (cV.more (R:=FL) (S:=Any) (news:=[⟨x.data.toList,z⟩]) (EJ:=[[.string x,bR z]]) (xs:=xs) k1 rK.o Me.o rfl (fun j cs y hc hy=>by
    (have hj:j=0:=by have:=(List.getElem?_eq_some_iff.1 hc).1;simpa using this);subst hj;simp at hc hy;subst hc hy;show[Value.string x,bR z]=[Value.string ⟨x.data.toList.toArray⟩,bR z];rw[← Bt x rfl]) rfl rfl qu rI (by simpa using yG))
   have oB:=aa (show Below w w w9 from(HI.o.2.2.2.2.trans (CS.o.mono hwr)).grown rI (Nat.le_trans hwr CS.o.size) (fun g hg=>G0.o g hg));have CT:∀ y∈xs++[(⟨x.data.toList,z⟩:iZ)],yP y:=by
    intro y hy;rcases List.mem_append.1 hy with hy|hy
    (·exact HI.o.2.2.1 y hy);rw[List.mem_singleton.1 hy];refine⟨?_,by simp;omega,by simp;omega⟩;intro h;have h2:x.data.toList=[]:=h;have:=Md.o;rw[← HX.o,h2]at this;cases this
   have Nc:=aa (show uy s.data.toList w w9 v9 r2 (xs++[(⟨x.data.toList,z⟩:iZ)])from⟨HM9.o,HIT.o,CT,by have:=HI.o.2.2.2.1;simp;omega,oB.o⟩);clear CT;clear qu rI yG;go_wp2_with fail;go_roundw;(case rel=>exact⟨r2,xs++[(⟨x.data.toList,z⟩:iZ)],rfl,by omega,Nc.o⟩);(case measure=>simp[strOf];omega)
  |false=>
   rw[G7]at q42 Nb;cases yQ:(rs[0]==47)with
   |true=>
    rw[yQ]at VJ G6;have hneg:IntKind.i64.wrap (-z)=-z:=fC af;have HIT:=aa (show gI s.data.toList=match iX r2.data.toList with|none=>none|some l=>some ((xs++[⟨x.data.toList,(-z)⟩])++l) by
     rw[zK.o,Na.o,G7,yQ,G5.o,HX.o];simp only[Bool.or_true,Bool.true_or,Bool.not_true,Bool.or_false,Bool.false_eq_true,if_false];cases iX (mY (T.dropWhile cQ)).2 with
     |none=>rfl
     |some l=>
      have h9:rs[0]=47:=eq_of_beq yQ;simp[h9])
    have iM:Below wr wr ((w1.alloc (.cells #[.string x,bR (-z)] 175)).alloc (.cells #[.string x,bR (-z)] 175)):=(eJ.o.alloc hw1 _).alloc aq _;have CS:=aa iM;obtain⟨css,k1,k2,k3,k4⟩:=HI.o.1.bU iM;have ld:=aa k2;have rK:=aa k3;have Me:=aa k4;have mH:=fun g hg=>(cV.lt HI.o.1 g hg).1;have G0:=aa mH;(have hxl:xs.length≤41:=by have:=HI.o.2.2.2.1;omega);obtain⟨i0,ug,hz0,hz1,hz2⟩:=info_parts uA;clear G7 yQ iM k2 k3 k4 mH;go_wp2_with (at_builtin;refine eZ _ rfl (.tmp 52) (.tmp 54) _ rfl w 175 i0 _ 2 24 Tryz.underlying170 ug hz0 hz1 hz2 rfl af _ xs.length css.flatten rfl ld.o (w1.heap.size+1+1) (some ⟨↑w1+1,0,none⟩) 1 1 [.string x,bR (-z)] rfl ?c2 ?c6 ?c3 ?c4 ?c5 ?_);(case c2=>simpa using vv (w1.alloc (.cells #[.string x,bR (-z)] 175)) [.string x,bR (-z)] 175 1 2 rfl);(case c6=>intro u hu;simp at hu;rcases hu with rfl|rfl<;>rfl);(case c3=>unfold maxLen;omega);(case c4=>omega);(case c5=>simp;omega);intro v9 w9 qu rI yG;have HM9:=aa (cV.more (R:=FL) (S:=Any) (news:=[⟨x.data.toList,(-z)⟩]) (EJ:=[[.string x,bR (-z)]]) (xs:=xs) k1 rK.o Me.o rfl (fun j cs y hc hy=>by
     (have hj:j=0:=by have:=(List.getElem?_eq_some_iff.1 hc).1;simpa using this);subst hj;simp at hc hy;subst hc hy;show[Value.string x,bR (-z)]=[Value.string ⟨x.data.toList.toArray⟩,bR (-z)];rw[← Bt x rfl]) rfl rfl qu rI (by simpa using yG))
    have oB:=aa (show Below w w w9 from(HI.o.2.2.2.2.trans (CS.o.mono hwr)).grown rI (Nat.le_trans hwr CS.o.size) (fun g hg=>G0.o g hg));have CT:∀ y∈xs++[(⟨x.data.toList,(-z)⟩:iZ)],yP y:=by
     intro y hy;rcases List.mem_append.1 hy with hy|hy
     (·exact HI.o.2.2.1 y hy);rw[List.mem_singleton.1 hy];refine⟨?_,by simp;omega,by simp;omega⟩;intro h;have h2:x.data.toList=[]:=h;have:=Md.o;rw[← HX.o,h2]at this;cases this
    have Nc:=aa (show uy s.data.toList w w9 v9 r2 (xs++[(⟨x.data.toList,(-z)⟩:iZ)])from⟨HM9.o,HIT.o,CT,by have:=HI.o.2.2.2.1;simp;omega,oB.o⟩);clear CT;clear qu rI yG;go_wp2_with fail;go_roundw;(case rel=>exact⟨r2,xs++[(⟨x.data.toList,(-z)⟩:iZ)],rfl,by omega,Nc.o⟩);(case measure=>simp[strOf];omega)
   |false=>
    rw[yQ]at VJ G6;have HN:=aa (show gI s.data.toList=none by rw[zK.o,Na.o,G7,yQ];simp);clear G7 yQ;go_wp2_with fail;go_ret2;exact⟨none,0,[],by rw[HN.o];rfl,Sq.nil,fun l h=>aat,fun x hx=>(by simp at hx),by simp,HI.o.2.2.2.2.trans ((eJ.o.mono hwr).alloc af _)⟩
end Go.Proofs.YtkfofnjfihfgkaaGreatDoor
