/- Parts of the proof, packed (JnP to JnF); each theorem bears its own conditions. -/
import Derived.Test.YtkfofnjfihfgkaaGreatDoorPz21
set_option linter.unusedVariables false
set_option linter.unusedSimpArgs false
set_option maxRecDepth 100000
set_option maxHeartbeats 8000000
open Go.Proofs.Tryz
open Go.Lib renaming hid → aa
namespace Go.Proofs.YtkfofnjfihfgkaaGreatDoor
open Go Go.RowKit Go.Proofs Sh Kb
section
structure E_ (a b:bY) (T0:Bool) (i:Nat) (tw:Bool) (rs:List cw):Prop where
 e1:(jW a.bX b.bX).1=(jW rs (b.bX.drop i)).1
 e2:(T0||(jW a.bX b.bX).2)=(tw||(jW rs (b.bX.drop i)).2)
 len:rs.length≤a.bX.length+i∧a.bX.length≤rs.length
 late:∀ j x,a.bX.length≤j→rs[j]? =some x→x.kind∈(b.bX.take i).map (·.kind)
 stp:∀ x∈rs,x.steps.length≤100+100*i∧(∀ y∈x.steps,dO y=true)∧wV x
section
variable {a b:bY} {T0 tw:Bool} {i k:Nat} {rs:List cw} {x y:cw}
theorem nJ {s:bY} (h:cN s=true) (hz:fe s):(∀ x∈s.bX,x.steps.length≤100∧(∀ y∈x.steps,dO y=true)∧wV x)∧(s.bX.map (·.kind)).Nodup:=by
 refine⟨fun x hx=>?_,?_⟩
 (·have h1:=((dm h).bX x hx).2;unfold dW at h1;simp only[Bool.and_eq_true,decide_eq_true_eq]at h1;exact⟨h1.1,List.all_eq_true.1 h1.2,hz.bX x hx⟩);have h1:=(mK ((jZ s).1 h).2.2.2).2.2.1;simpa [List.map_map,Function.comp_def]using h1
theorem E_.start (ha:cN a=true) (hza:fe a):E_ a b T0 0 T0 a.bX:=
 ⟨by rw[List.drop_zero],by rw[List.drop_zero],⟨by omega,by omega⟩,fun j x hj hx=>(by rw[List.getElem?_eq_none hj]at hx;cases hx),fun x hx=>by
  obtain⟨h1,h2,h3⟩:=(nJ ha hza).1 x hx;exact⟨by omega,h2,h3⟩⟩
theorem E_.add (h:E_ a b T0 i tw rs) (hb:cN b=true) (hzb:fe b) (hx:b.bX[i]? =some x) (hn:rs.findIdx? (fun y=>y.kind==x.kind)=none):E_ a b T0 (i+1) tw (rs++[x]):=by
 obtain⟨hi,CD⟩:=List.getElem?_eq_some_iff.1 hx;have hd:b.bX.drop i=x :: b.bX.drop (i+1):=(by rw[List.drop_eq_getElem_cons hi,CD]);have hj:jW rs (b.bX.drop i)=jW (rs++[x]) (b.bX.drop (i+1)):=(by rw[hd];conv=>lhs;unfold jW;rw[hn]);have hlen:=h.len;refine⟨by rw[← hj];exact h.e1,by rw[← hj];exact h.e2,⟨by simp;omega,by simp;omega⟩,fun j z hj hz=>?_,fun z hz=>?_⟩
 ·have UH:(b.bX.take (i+1)).map (·.kind)=(b.bX.take i).map (·.kind)++[x.kind]:=(by rw[List.take_add_one,hx];simp);rw[UH,List.mem_append];rcases Nat.lt_or_ge j rs.length with q|q
  (·rw[List.getElem?_append_left q]at hz;exact .inl (h.late j z hj hz));rw[List.getElem?_append_right q]at hz;have e:x=z:=by
   (have h0:j - rs.length=0:=by have:=(List.getElem?_eq_some_iff.1 hz).1;simpa using this);rw[h0]at hz;simpa using hz
  exact .inr (by rw[e];simp)
 rcases List.mem_append.1 hz with q|q
 (·obtain⟨h1,h2,h3⟩:=h.stp z q;exact⟨by omega,h2,h3⟩);have e:z=x:=(by simpa using q);subst e;obtain⟨h1,h2,h3⟩:=(nJ hb hzb).1 z (List.mem_of_getElem? hx);exact⟨by omega,h2,h3⟩
theorem E_.hit (h:E_ a b T0 i tw rs) (hb:cN b=true) (hzb:fe b) (hx:b.bX[i]? =some x) (hk:rs.findIdx? (fun y=>y.kind==x.kind)=some k):k<a.bX.length∧∃ y,rs[k]? =some y∧E_ a b T0 (i+1) (tw||mF (gw y) (gw x)) (rs.set k ⟨y.kind,y.steps++x.steps⟩):=by
 obtain⟨hi,CD⟩:=List.getElem?_eq_some_iff.1 hx;rw[List.findIdx?_eq_some_iff_getElem]at hk;obtain⟨qW,hp,hmin⟩:=hk;have hkind:rs[k].kind=x.kind:=(by rw[Ni]at hp;exact of_decide_eq_true hp);have hka:k<a.bX.length:=by
  rcases Nat.lt_or_ge k a.bX.length with q|q
  (·exact q);have h1:=h.late k rs[k] q (List.getElem?_eq_getElem qW);rw[hkind]at h1;obtain⟨z,hz,e⟩:=List.mem_map.1 h1;obtain⟨j,hj,rfl⟩:=List.getElem_of_mem hz;have hj2:j<i:=(by rw[List.length_take]at hj;omega);rw[List.getElem_take]at e;have hnd:=(nJ hb hzb).2;have hp2:=List.pairwise_iff_getElem.1 hnd j i aq aad hj2;simp only[List.getElem_map]at hp2;exact absurd (e.trans (by rw[CD])) hp2
 have hd:b.bX.drop i=x :: b.bX.drop (i+1):=(by rw[List.drop_eq_getElem_cons hi,CD]);have hfi:rs.findIdx? (fun y=>y.kind==x.kind)=some k:=(by rw[List.findIdx?_eq_some_iff_getElem];exact⟨qW,hp,hmin⟩);have hj:jW rs (b.bX.drop i)=((jW (rs.set k ⟨rs[k].kind,rs[k].steps++x.steps⟩) (b.bX.drop (i+1))).1,mF (gw rs[k]) (gw x)||(jW (rs.set k ⟨rs[k].kind,rs[k].steps++x.steps⟩) (b.bX.drop (i+1))).2):=by
  rw[hd];(conv=>lhs;unfold jW;rw[hfi]);simp[qW]
 have hlen:=h.len;refine⟨hka,rs[k],List.getElem?_eq_getElem qW,⟨by rw[h.e1,hj],by rw[h.e2,hj,Bool.or_assoc],⟨by simp;omega,by simp;omega⟩,fun j z hj hz=>?_,fun z hz=>?_⟩⟩
 (·have UH:(b.bX.take (i+1)).map (·.kind)=(b.bX.take i).map (·.kind)++[x.kind]:=(by rw[List.take_add_one,hx];simp);rw[UH,List.mem_append];rw[List.getElem?_set_ne af]at hz;exact .inl (h.late j z hj hz));rcases List.mem_or_eq_of_mem_set hz with q|q
 (·obtain⟨h1,h2,h3⟩:=h.stp z q;exact⟨by omega,h2,h3⟩);subst q;obtain⟨h1,h2,h3⟩:=h.stp rs[k] (List.getElem_mem qW);obtain⟨g1,g2,g3⟩:=(nJ hb hzb).1 x (List.mem_of_getElem? hx);refine⟨by simp;omega,fun y hy=>(List.mem_append.1 hy).elim (h2 y) (g2 y),⟨h3.kind,?_,fun y hy=>(List.mem_append.1 hy).elim (h3.each y) (g3.each y)⟩⟩;simp only[List.length_append];(have hil:b.bX.length≤1000000000000:=by have:=hzb.len;omega);unfold maxLen;omega
end
theorem join_is (px:Nat) (kd:ByteArray) (l:List cw) (w:World) (hc:bW w px 0 (bV kd)) (hp:px<w.heap.size):jN prog 40 #[.pointer (bS px 0)] dL (fun y=>y.kind==kd) l w:=fun W cs x hx ep hb=>by
 obtain⟨A,c,e,_⟩:=ep;subst e;have h0:bW W px 0 (bV kd):=(hb.cell (p:=bS px 0) hp).trans hc;have hpW:px<W.heap.size:=Nat.lt_of_lt_of_le hp hb.size;have HE:=aa (BC x.kind kd);obtain⟨xn,hxn⟩:∃ n,n=x.kind:=⟨_,rfl⟩;rw[← hxn]at HE ⊢;have HXN:=aa hxn;clear hxn;generalize x.steps.length=xl;show Calls prog 40 #[.agg #[bV xn,bQ A xl c],.pointer (bS px 0)] W _;go_enter func40,ntmps40;go_wp2_with fail;go_ret;exact⟨by show Ending.returned (.bool (xn.toList==kd.toList))=Ending.returned (.bool (x.kind==kd));rw[HE.o,HXN.o],cJ _⟩
def uV (la:dU) (A8:Option Addr) (c8:Nat):dU:={la with A8:=A8,c8:=c8}
structure zq (p Ba Bb z0:Nat) (w:World) (la lb:dU) (a b:bY) (ta:Tag) (t:Nat→Nat) (A8:Option Addr) (c8:Nat) (rs:List cw) (wr:World):Prop where
 nK:cH wr p 31 (cn (uV la A8 c8) {a with bX:=rs})
 kC:cH wr (p+1) 31 (cn lb b)
 res:cH wr (p+2) 31 (gh)
 j7:J7 Ba Bb z0 ta wr la a
 jr:JR Ba Bb z0 ta a.bX.length t wr (bQ A8 rs c8) rs
 Mi:cB wr (ZB Bb z0) lb b
 base:p+3≤Ba∧Ba≤Bb∧Bb≤z0∧z0≤wr.heap.size
 bU:Below p w wr
section
variable {p Ba Bb z0 c8:Nat} {w wr w1:World} {la lb:dU} {a b:bY} {ta:Tag} {t:Nat→Nat} {A8:Option Addr} {rs:List cw}
theorem zq.gX (h:zq p Ba Bb z0 w la lb a b ta t A8 c8 rs wr) (hb:Below wr wr w1):zq p Ba Bb z0 w la lb a b ta t A8 c8 rs w1:=by
 obtain⟨b1,b2,b3,b4⟩:=h.base;exact⟨h.nK.bU hb h.nK.lt,h.kC.bU hb h.kC.lt,h.res.bU hb h.res.lt,h.j7.keep hb.size fun b hb' _=>hb.block b hb',h.jr.bU hb,h.Mi.bU hb,⟨b1,b2,b3,Nat.le_trans b4 hb.size⟩,h.bU.trans (hb.mono (Nat.le_of_lt h.nK.lt))⟩
theorem zq.gD {t':Nat→Nat} (h:zq p Ba Bb z0 w la lb a b ta t A8 c8 rs wr) (ht:∀ b,b<wr.heap.size→t' b=t b):zq p Ba Bb z0 w la lb a b ta t' A8 c8 rs wr:=
 ⟨h.nK,h.kC,h.res,h.j7,h.jr.gD ht,h.Mi,h.base,h.bU⟩
theorem J7.sM {S:Nat→Prop} (h:J7 Ba Bb z0 ta wr la a) (hr:Sq dL wr S A8 rs) (lo:Nat) (h1:lo≤Ba) (h2:lo≤Bb) (hS:∀ b,lo≤b→S b):cB wr S (uV la A8 c8) {a with bX:=rs}:=
 ⟨(h.p1.sq h1 h2).mono fun b _=>hS b,(h.p2.sq h1 h2).mono fun b _=>hS b,(h.p3.sq h1 h2).mono fun b _=>hS b,(h.p4.sq h1 h2).mono fun b _=>hS b,(h.p5.sq h1 h2).mono fun b _=>hS b,(h.p6.sq h1 h2).mono fun b _=>hS b,(h.p7.sq h1 h2).mono fun b _=>hS b,hr⟩
theorem zq.NQ (h:zq p Ba Bb z0 w la lb a b ta t A8 c8 rs wr):cB wr Any (uV la A8 c8) {a with bX:=rs}:=
 h.j7.sM ((h.jr.sq (lo:=0) af af af).mono fun _ _ _=>trivial) 0 af af fun _ _=>trivial
theorem zq.NR (h:zq p Ba Bb z0 w la lb a b ta t A8 c8 rs wr):cB wr Any lb b:=h.Mi.mono fun _ _ _=>trivial
theorem zq.start {w1 wA wB:World} (hOa:eO Ba wA la a ta) (hOb:cB wB (fun b=>wA.heap.size≤b) lb b) (hAB:Below wA wA wB) (hBa:p+3≤Ba) (hBA:Ba≤wA.heap.size) (hb:Below p w wr) (hz:wB.heap.size=wr) (hk:∀ b,p+2<b→wr.heap[b]? =wB.heap[b]?) (k1:cH wr p 31 (cn la a)) (k2:cH wr (p+1) 31 (cn lb b)) (k3:cH wr (p+2) 31 (gh)):∃ t,zq p Ba wA wB w la lb a b ta t la.A8 la.c8 a.bX wr:=by
 obtain⟨t,hJ⟩:=JR.start (z0:=wB) hOa (Nat.le_refl _);have hs:=hAB.size;have J7A:=(J7.start (z0:=wB) hOa (Nat.le_refl _)).keep hAB.size fun b hb' _=>hAB.block b hb';have JRA:=hJ.bU hAB;refine⟨t,k1,k2,k3,J7A.keep af fun b hb' q=>hk b ?_,JRA.keep af fun b hb' q=>hk b ?_,?_,⟨hBa,hBA,hs,by omega⟩,hb⟩
 ·rcases q with⟨_,i,_,q⟩|q
  (·have:=q.1;omega);have:=q.1;omega
 ·rcases q with q|q|q
  (·have:=q.2.1;omega)
  (·omega);have:=q.1;omega
 exact(hOb.keep ⟨by omega,fun b _ q=>hk b af⟩).mono fun b hb' q=>⟨q,by omega⟩
end
theorem Du {s:bY} (h:cN s=true) (hz:fe s):s.funcs.length≤1000000000∧s.tables.length≤1000000000∧∀ f∈s.funcs,f.params.length≤maxLen:=by
 have h9:=(dm h).len;simp only[uses,ei,eE,List.length_append,List.length_map]at h9;exact⟨by omega,by omega,fun f hf=>(hz.funcs f hf).params⟩
section
variable {p Ba Bb z0 c8 c9:Nat} {w wr w1:World} {la lb:dU} {a b:bY} {ta:Tag} {t t':Nat→Nat} {A8 A9:Option Addr} {rs rs':List cw}
theorem zq.patched (h:zq p Ba Bb z0 w la lb a b ta t A8 c8 rs wr) (hs:wr.heap.size≤w1) (hk:∀ b,b<wr.heap.size→¬(b<Bb∧UT ta Ba 8 b)→b<z0→w1.heap[b]? =wr.heap[b]?) (hw:w1.os=wr.os∧w1.tape=wr.tape∧w1.output=wr.output) (hl:rs'.length=rs.length) (YY:JR Ba Bb z0 ta a.bX.length t' w1 (bQ A8 rs c8) rs'):zq p Ba Bb z0 w la lb a b ta t' A8 c8 rs' w1:=by
 obtain⟨b1,b2,b3,b4⟩:=h.base;have lo:∀ b,b<Ba→w1.heap[b]? =wr.heap[b]? :=fun b hb=>hk b af (fun q=>by have:=q.2.1;omega) af;refine⟨?_,(lo (p+1) af).trans h.kC,(lo (p+2) af).trans h.res,h.j7.keep hs fun b hb q=>?_,by rw[hl];exact YY,h.Mi.keep ⟨hs,fun b hb q=>hk b hb (fun r=>by have:=q.1;omega) q.2⟩,⟨b1,b2,b3,Nat.le_trans b4 hs⟩,⟨hw.1.trans h.bU.os,hw.2.1.trans h.bU.tape,hw.2.2.trans h.bU.output,Nat.le_trans h.bU.size hs,fun b hb=>(lo b af).trans (h.bU.block b hb)⟩⟩
 (·have h9:=(lo p af).trans h.nK;simp only[cn,uV,hl]at h9 ⊢;exact h9);rcases q with⟨q1,i,hi,q2⟩|q
 (·exact hk b hb (fun r=>by have:=q2.2;have:=r.2.2;omega) af);exact hk b hb (fun r=>by have:=q.1;omega) q.2
theorem zq.turn (h:zq p Ba Bb z0 w la lb a b ta t A8 c8 rs wr) (hs:wr.heap.size≤w1) (hk:∀ b,b<wr.heap.size→¬(b<Bb∧UT ta Ba 8 b)→b<z0→w1.heap[b]? =wr.heap[b]?) (hw:w1.os=wr.os∧w1.tape=wr.tape∧w1.output=wr.output) (YY:JR Ba Bb z0 ta a.bX.length t' w1 (bQ A9 rs' c9) rs'):zq p Ba Bb z0 w la lb a b ta t' A9 c9 rs' (w1.setCell (bS p 8) (bQ A9 rs' c9)):=by
 obtain⟨b1,b2,b3,b4⟩:=h.base;have far:∀ b,b≠p→(w1.setCell (bS p 8) (bQ A9 rs' c9)).heap[b]? =w1.heap[b]? :=fun b hb=>Below.heap_setCell w1 (bS p 8) _ b hb;have lo:∀ b,b<Ba→w1.heap[b]? =wr.heap[b]? :=fun b hb=>hk b af (fun q=>by have:=q.2.1;omega) af;have hs2:wr.heap.size≤(w1.setCell (bS p 8) (bQ A9 rs' c9)).heap.size:=(by simpa [World.setCell]using hs);refine⟨?_,(far (p+1) af).trans ((lo (p+1) af).trans h.kC),(far (p+2) af).trans ((lo (p+2) af).trans h.res),h.j7.keep hs2 fun b hb q=>?_,YY.keep bM fun b hb q=>far b ?_,h.Mi.keep ⟨hs2,fun b hb q=>(far b (by have:=q.1;omega)).trans (hk b hb (fun r=>by have:=q.1;omega) q.2)⟩,⟨b1,b2,b3,Nat.le_trans b4 hs2⟩,⟨hw.1.trans h.bU.os,hw.2.1.trans h.bU.tape,hw.2.2.trans h.bU.output,Nat.le_trans h.bU.size hs2,fun b hb=>(far b af).trans ((lo b af).trans (h.bU.block b hb))⟩⟩
 (·have h9:cH w1 p 31 (cn (uV la A8 c8) {a with bX:=rs}):=(lo p af).trans h.nK;exact h9.cM 8 (bQ A9 rs' c9))
 ·rcases q with⟨q1,i,hi,q2⟩|q
  (·exact(far b (by have:=q2.1;omega)).trans (hk b hb (fun r=>by have:=q2.2;have:=r.2.2;omega) af));exact(far b (by have:=q.1;omega)).trans (hk b hb (fun r=>by have:=q.1;omega) q.2)
 rcases q with q|q|q
 (·have:=q.2.1;omega)
 (·omega);have:=q.1;omega
end
end
section
structure JF (p Ba Bb z0 na:Nat) (w:World) (lb:dU) (b:bY) (ta:Tag) (t:Nat→Nat) (b1 b2 b3 b4 b5 b6 b7:Bool) (l:dU) (s:bY) (wr:World):Prop where
 kC:cH wr (p+1) 31 (cn lb b)
 res:cH wr (p+2) 31 (gh)
 p1:JP Ba Bb z0 ta b1 1 gN 143 wr (bQ l.A1 s.imports l.c1) s.imports
 p2:JP Ba Bb z0 ta b2 2 jg 125 wr (bQ l.A2 s.inputs l.c2) s.inputs
 p3:JP Ba Bb z0 ta b3 3 fO 106 wr (bQ l.A3 s.tables l.c3) s.tables
 p4:JP Ba Bb z0 ta b4 4 jb 76 wr (bQ l.A4 s.funcs l.c4) s.funcs
 p5:JP Ba Bb z0 ta b5 5 dS 56 wr (bQ l.A5 s.cells l.c5) s.cells
 p6:JP Ba Bb z0 ta b6 6 lH 127 wr (bQ l.A6 s.b9 l.c6) s.b9
 p7:JP Ba Bb z0 ta b7 7 jh 136 wr (bQ l.A7 s.stores l.c7) s.stores
 jr:JR Ba Bb z0 ta na t wr (bQ l.A8 s.bX l.c8) s.bX
 Mi:cB wr (ZB Bb z0) lb b
 base:p+3≤Ba∧Ba≤Bb∧Bb≤z0∧z0≤wr.heap.size
 bU:Below p w wr
section
variable {p Ba Bb z0 na c8:Nat} {w wr w1:World} {la lb l:dU} {a b s:bY} {ta:Tag} {t:Nat→Nat} {A8:Option Addr} {rs:List cw} {b1 b2 b3 b4 b5 b6 b7:Bool}
theorem JF.start (h:zq p Ba Bb z0 w la lb a b ta t A8 c8 rs wr):JF p Ba Bb z0 a.bX.length w lb b ta t false false false false false false false (uV la A8 c8) {a with bX:=rs} wr:=
 ⟨h.kC,h.res,h.j7.p1,h.j7.p2,h.j7.p3,h.j7.p4,h.j7.p5,h.j7.p6,h.j7.p7,h.jr,h.Mi,h.base,h.bU⟩
def Ul (p Ba Bb:Nat) (ta:Tag) (i:Nat) (w w':World):Prop:=w.heap.size≤w'∧(w'.os=w.os∧w'.tape=w.tape∧w'.output=w.output)∧∀ b,b<w.heap.size→¬(b<Bb∧UT ta Ba i b)→b≠p→w'.heap[b]? =w.heap[b]?
theorem JP.far {α:Type} {R:Rel α} {i j T:Nat} {ph:Bool} {v:Value} {xs:List α} (h:JP Ba Bb z0 ta ph j R T wr v xs) (K:Ul p Ba Bb ta i wr w1) (hij:i≠j) (hi:i<10) (hj:j<10) (hp:p<Ba) (hab:Ba≤Bb) (hbz:Bb≤z0):JP Ba Bb z0 ta ph j R T w1 v xs:=by
 refine h.keep K.1 fun b hb q=>K.2.2 b hb (fun r=>?_) ?_
 ·rcases q with q|q|q
  (·have:=q.2.2;have:=r.2.2;omega)
  (·have:=q.1;omega);have:=q.2;omega
 rcases q with q|q|q
 (·have:=q.2.1;omega)
 (·have:=q.1;omega);have:=q.2;omega
theorem JF.Ia (h:JF p Ba Bb z0 na w lb b ta t b1 b2 b3 b4 b5 b6 b7 l s wr) {i:Nat} (hi:i<8) (K:Ul p Ba Bb ta i wr w1):cH w1 (p+1) 31 (cn lb b)∧cH w1 (p+2) 31 (gh)∧JR Ba Bb z0 ta na t w1 (bQ l.A8 s.bX l.c8) s.bX∧cB w1 (ZB Bb z0) lb b∧(p+3≤Ba∧Ba≤Bb∧Bb≤z0∧z0≤w1.heap.size)∧Below p w w1:=by
 obtain⟨q1,q2,q3,q4⟩:=h.base;have lo:∀ b,b<Ba→b≠p→w1.heap[b]? =wr.heap[b]? :=fun b hb hne=>K.2.2 b af (fun r=>by have:=r.2.1;omega) hne;have hj:JR Ba Bb z0 ta na t w1 (bQ l.A8 s.bX l.c8) s.bX:=by
  refine h.jr.keep K.1 fun b hb q=>K.2.2 b hb (fun r=>?_) ?_
  ·rcases q with q|q|q
   (·have:=q.2.2;have:=r.2.2;omega)
   (·omega);have:=q.1;omega
  rcases q with q|q|q
  (·have:=q.2.1;omega)
  (·omega);have:=q.1;omega
 exact⟨(lo (p+1) af af).trans h.kC,(lo (p+2) af af).trans h.res,hj,
  h.Mi.keep ⟨K.1,fun b hb q=>K.2.2 b hb (fun r=>by have:=q.1;omega) (by have:=q.1;omega)⟩,⟨q1,q2,q3,Nat.le_trans q4 K.1⟩,⟨K.2.1.1.trans h.bU.os,K.2.1.2.1.trans h.bU.tape,K.2.1.2.2.trans h.bU.output,Nat.le_trans h.bU.size K.1,fun b hb=>(lo b af af).trans (h.bU.block b hb)⟩⟩
theorem nL {α:Type} {R:Rel α} {i T:Nat} {v v':Value} {xs zs:List α} {S:Nat→Prop} (h:JP Ba Bb z0 ta false i R T wr v xs) (G:Grown R T Ba wr S v zs w1 v'):Ul p Ba Bb ta i wr w1:=
 ⟨G.turn.size,⟨G.turn.os,G.turn.tape,G.turn.output⟩,fun b hb hn _=>G.turn.block b hb fun e=>by
  rcases h.2 b e.symm with q|q
  (·exact hn q);cases q.1⟩
theorem JF.s1 {A':Option Addr} {c':Nat} (h:JF p Ba Bb z0 na w lb b ta t false b2 b3 b4 b5 b6 b7 l s wr) (G:Grown gN 143 Ba wr (fun b=>(b<Bb∧UT ta Ba 1 b)∨ZB Bb z0 b) (bQ l.A1 s.imports l.c1) (s.imports++b.imports) w1 (bQ A' (s.imports++b.imports).length c')):JF p Ba Bb z0 na w lb b ta t true b2 b3 b4 b5 b6 b7 {l with A1:=A',c1:=c'} {s with imports:=s.imports++b.imports} w1:=by
 have K:Ul p Ba Bb ta 1 wr w1:=nL h.p1 G;(have hp:p<Ba:=by have:=h.base;omega);obtain⟨k1,k2,k3,k4,k5,k6⟩:=h.Ia ag K;exact⟨k1,k2,h.p1.more h.base.2.2.2 G,h.p2.far K ag ag ag hp h.base.2.1 h.base.2.2.1,h.p3.far K ag ag ag hp h.base.2.1 h.base.2.2.1,h.p4.far K ag ag ag hp h.base.2.1 h.base.2.2.1,h.p5.far K ag ag ag hp h.base.2.1 h.base.2.2.1,h.p6.far K ag ag ag hp h.base.2.1 h.base.2.2.1,h.p7.far K ag ag ag hp h.base.2.1 h.base.2.2.1,k3,k4,k5,k6⟩
theorem JF.s2 {A':Option Addr} {c':Nat} (h:JF p Ba Bb z0 na w lb b ta t b1 false b3 b4 b5 b6 b7 l s wr) (G:Grown jg 125 Ba wr (fun b=>(b<Bb∧UT ta Ba 2 b)∨ZB Bb z0 b) (bQ l.A2 s.inputs l.c2) (s.inputs++b.inputs) w1 (bQ A' (s.inputs++b.inputs).length c')):JF p Ba Bb z0 na w lb b ta t b1 true b3 b4 b5 b6 b7 {l with A2:=A',c2:=c'} {s with inputs:=s.inputs++b.inputs} w1:=by
 have K:Ul p Ba Bb ta 2 wr w1:=nL h.p2 G;(have hp:p<Ba:=by have:=h.base;omega);obtain⟨k1,k2,k3,k4,k5,k6⟩:=h.Ia ag K;exact⟨k1,k2,h.p1.far K ag ag ag hp h.base.2.1 h.base.2.2.1,h.p2.more h.base.2.2.2 G,h.p3.far K ag ag ag hp h.base.2.1 h.base.2.2.1,h.p4.far K ag ag ag hp h.base.2.1 h.base.2.2.1,h.p5.far K ag ag ag hp h.base.2.1 h.base.2.2.1,h.p6.far K ag ag ag hp h.base.2.1 h.base.2.2.1,h.p7.far K ag ag ag hp h.base.2.1 h.base.2.2.1,k3,k4,k5,k6⟩
theorem JF.s3 {A':Option Addr} {c':Nat} (h:JF p Ba Bb z0 na w lb b ta t b1 b2 false b4 b5 b6 b7 l s wr) (G:Grown fO 106 Ba wr (fun b=>(b<Bb∧UT ta Ba 3 b)∨ZB Bb z0 b) (bQ l.A3 s.tables l.c3) (s.tables++b.tables) w1 (bQ A' (s.tables++b.tables).length c')):JF p Ba Bb z0 na w lb b ta t b1 b2 true b4 b5 b6 b7 {l with A3:=A',c3:=c'} {s with tables:=s.tables++b.tables} w1:=by
 have K:Ul p Ba Bb ta 3 wr w1:=nL h.p3 G;(have hp:p<Ba:=by have:=h.base;omega);obtain⟨k1,k2,k3,k4,k5,k6⟩:=h.Ia ag K;exact⟨k1,k2,h.p1.far K ag ag ag hp h.base.2.1 h.base.2.2.1,h.p2.far K ag ag ag hp h.base.2.1 h.base.2.2.1,h.p3.more h.base.2.2.2 G,h.p4.far K ag ag ag hp h.base.2.1 h.base.2.2.1,h.p5.far K ag ag ag hp h.base.2.1 h.base.2.2.1,h.p6.far K ag ag ag hp h.base.2.1 h.base.2.2.1,h.p7.far K ag ag ag hp h.base.2.1 h.base.2.2.1,k3,k4,k5,k6⟩
theorem JF.s4 {A':Option Addr} {c':Nat} (h:JF p Ba Bb z0 na w lb b ta t b1 b2 b3 false b5 b6 b7 l s wr) (G:Grown jb 76 Ba wr (fun b=>(b<Bb∧UT ta Ba 4 b)∨ZB Bb z0 b) (bQ l.A4 s.funcs l.c4) (s.funcs++b.funcs) w1 (bQ A' (s.funcs++b.funcs).length c')):JF p Ba Bb z0 na w lb b ta t b1 b2 b3 true b5 b6 b7 {l with A4:=A',c4:=c'} {s with funcs:=s.funcs++b.funcs} w1:=by
 have K:Ul p Ba Bb ta 4 wr w1:=nL h.p4 G;(have hp:p<Ba:=by have:=h.base;omega);obtain⟨k1,k2,k3,k4,k5,k6⟩:=h.Ia ag K;exact⟨k1,k2,h.p1.far K ag ag ag hp h.base.2.1 h.base.2.2.1,h.p2.far K ag ag ag hp h.base.2.1 h.base.2.2.1,h.p3.far K ag ag ag hp h.base.2.1 h.base.2.2.1,h.p4.more h.base.2.2.2 G,h.p5.far K ag ag ag hp h.base.2.1 h.base.2.2.1,h.p6.far K ag ag ag hp h.base.2.1 h.base.2.2.1,h.p7.far K ag ag ag hp h.base.2.1 h.base.2.2.1,k3,k4,k5,k6⟩
theorem JF.s5 {A':Option Addr} {c':Nat} (h:JF p Ba Bb z0 na w lb b ta t b1 b2 b3 b4 false b6 b7 l s wr) (G:Grown dS 56 Ba wr (fun b=>(b<Bb∧UT ta Ba 5 b)∨ZB Bb z0 b) (bQ l.A5 s.cells l.c5) (s.cells++b.cells) w1 (bQ A' (s.cells++b.cells).length c')):JF p Ba Bb z0 na w lb b ta t b1 b2 b3 b4 true b6 b7 {l with A5:=A',c5:=c'} {s with cells:=s.cells++b.cells} w1:=by
 have K:Ul p Ba Bb ta 5 wr w1:=nL h.p5 G;(have hp:p<Ba:=by have:=h.base;omega);obtain⟨k1,k2,k3,k4,k5,k6⟩:=h.Ia ag K;exact⟨k1,k2,h.p1.far K ag ag ag hp h.base.2.1 h.base.2.2.1,h.p2.far K ag ag ag hp h.base.2.1 h.base.2.2.1,h.p3.far K ag ag ag hp h.base.2.1 h.base.2.2.1,h.p4.far K ag ag ag hp h.base.2.1 h.base.2.2.1,h.p5.more h.base.2.2.2 G,h.p6.far K ag ag ag hp h.base.2.1 h.base.2.2.1,h.p7.far K ag ag ag hp h.base.2.1 h.base.2.2.1,k3,k4,k5,k6⟩
theorem JF.s6 {A':Option Addr} {c':Nat} (h:JF p Ba Bb z0 na w lb b ta t b1 b2 b3 b4 b5 false b7 l s wr) (G:Grown lH 127 Ba wr (fun b=>(b<Bb∧UT ta Ba 6 b)∨ZB Bb z0 b) (bQ l.A6 s.b9 l.c6) (s.b9++b.b9) w1 (bQ A' (s.b9++b.b9).length c')):JF p Ba Bb z0 na w lb b ta t b1 b2 b3 b4 b5 true b7 {l with A6:=A',c6:=c'} {s with b9:=s.b9++b.b9} w1:=by
 have K:Ul p Ba Bb ta 6 wr w1:=nL h.p6 G;(have hp:p<Ba:=by have:=h.base;omega);obtain⟨k1,k2,k3,k4,k5,k6⟩:=h.Ia ag K;exact⟨k1,k2,h.p1.far K ag ag ag hp h.base.2.1 h.base.2.2.1,h.p2.far K ag ag ag hp h.base.2.1 h.base.2.2.1,h.p3.far K ag ag ag hp h.base.2.1 h.base.2.2.1,h.p4.far K ag ag ag hp h.base.2.1 h.base.2.2.1,h.p5.far K ag ag ag hp h.base.2.1 h.base.2.2.1,h.p6.more h.base.2.2.2 G,h.p7.far K ag ag ag hp h.base.2.1 h.base.2.2.1,k3,k4,k5,k6⟩
theorem JF.s7 {A':Option Addr} {c':Nat} (h:JF p Ba Bb z0 na w lb b ta t b1 b2 b3 b4 b5 b6 false l s wr) (G:Grown jh 136 Ba wr (fun b=>(b<Bb∧UT ta Ba 7 b)∨ZB Bb z0 b) (bQ l.A7 s.stores l.c7) (s.stores++b.stores) w1 (bQ A' (s.stores++b.stores).length c')):JF p Ba Bb z0 na w lb b ta t b1 b2 b3 b4 b5 b6 true {l with A7:=A',c7:=c'} {s with stores:=s.stores++b.stores} w1:=by
 have K:Ul p Ba Bb ta 7 wr w1:=nL h.p7 G;(have hp:p<Ba:=by have:=h.base;omega);obtain⟨k1,k2,k3,k4,k5,k6⟩:=h.Ia ag K;exact⟨k1,k2,h.p1.far K ag ag ag hp h.base.2.1 h.base.2.2.1,h.p2.far K ag ag ag hp h.base.2.1 h.base.2.2.1,h.p3.far K ag ag ag hp h.base.2.1 h.base.2.2.1,h.p4.far K ag ag ag hp h.base.2.1 h.base.2.2.1,h.p5.far K ag ag ag hp h.base.2.1 h.base.2.2.1,h.p6.far K ag ag ag hp h.base.2.1 h.base.2.2.1,h.p7.more h.base.2.2.2 G,k3,k4,k5,k6⟩
theorem JF.put (h:JF p Ba Bb z0 na w lb b ta t b1 b2 b3 b4 b5 b6 b7 l s wr) (i:Nat) (v:Value):JF p Ba Bb z0 na w lb b ta t b1 b2 b3 b4 b5 b6 b7 l s (wr.setCell (bS p i) v):=by
 have K:∀ j,Ul p Ba Bb ta j wr (wr.setCell (bS p i) v):=fun j=>⟨by simp[World.setCell],⟨rfl,rfl,rfl⟩,fun b _ _ hb=>Below.heap_setCell wr (bS p i) v b hb⟩;(have hp:p<Ba:=by have:=h.base;omega);obtain⟨k1,k2,k3,k4,k5,k6⟩:=h.Ia (by decide:0<8) (K 0);exact⟨k1,k2,h.p1.far (K 0) ag ag ag hp h.base.2.1 h.base.2.2.1,h.p2.far (K 0) ag ag ag hp h.base.2.1 h.base.2.2.1,h.p3.far (K 0) ag ag ag hp h.base.2.1 h.base.2.2.1,h.p4.far (K 0) ag ag ag hp h.base.2.1 h.base.2.2.1,h.p5.far (K 0) ag ag ag hp h.base.2.1 h.base.2.2.1,h.p6.far (K 0) ag ag ag hp h.base.2.1 h.base.2.2.1,h.p7.far (K 0) ag ag ag hp h.base.2.1 h.base.2.2.1,k3,k4,k5,k6⟩
theorem JF.gX (h:JF p Ba Bb z0 na w lb b ta t b1 b2 b3 b4 b5 b6 b7 l s wr) (hb:Below wr wr w1):JF p Ba Bb z0 na w lb b ta t b1 b2 b3 b4 b5 b6 b7 l s w1:=by
 have K:Ul p Ba Bb ta 0 wr w1:=⟨hb.size,⟨hb.os,hb.tape,hb.output⟩,fun b hb' _ _=>hb.block b hb'⟩;(have hp:p<Ba:=by have:=h.base;omega);obtain⟨k1,k2,k3,k4,k5,k6⟩:=h.Ia (by decide:0<8) K;exact⟨k1,k2,h.p1.far K ag ag ag hp h.base.2.1 h.base.2.2.1,h.p2.far K ag ag ag hp h.base.2.1 h.base.2.2.1,h.p3.far K ag ag ag hp h.base.2.1 h.base.2.2.1,h.p4.far K ag ag ag hp h.base.2.1 h.base.2.2.1,h.p5.far K ag ag ag hp h.base.2.1 h.base.2.2.1,h.p6.far K ag ag ag hp h.base.2.1 h.base.2.2.1,h.p7.far K ag ag ag hp h.base.2.1 h.base.2.2.1,k3,k4,k5,k6⟩
theorem JF.sM (h:JF p Ba Bb z0 na w lb b ta t b1 b2 b3 b4 b5 b6 b7 l s wr):cB wr (fun b=>p+3≤b) l s:=by
 obtain⟨q1,q2,q3,q4⟩:=h.base;exact⟨h.p1.sq af af,h.p2.sq af af,h.p3.sq af af,h.p4.sq af af,h.p5.sq af af,h.p6.sq af af,h.p7.sq af af,h.jr.sq af af af⟩
theorem JF.box (h:JF p Ba Bb z0 na w lb b ta t b1 b2 b3 b4 b5 b6 b7 l s wr) {i:Nat} {cs:List Value} (K:∀ b,b<wr.heap.size→¬(b<Bb∧UT ta Ba i b)→w1.heap[b]? =wr.heap[b]?) (k:cH wr p 31 cs):cH w1 p 31 cs:=(K p k.lt fun r=>by have:=r.2.1;have:=h.base;omega).trans k
theorem nM {α:Type} {R:Rel α} {i T:Nat} {v v':Value} {xs zs:List α} {S:Nat→Prop} (h:JP Ba Bb z0 ta false i R T wr v xs) (G:Grown R T Ba wr S v zs w1 v'):∀ b,b<wr.heap.size→¬(b<Bb∧UT ta Ba i b)→w1.heap[b]? =wr.heap[b]? :=fun b hb hn=>G.turn.block b hb fun e=>by
 rcases h.2 b e.symm with q|q
 (·exact hn q);cases q.1
theorem sm_join (ha:fe a) (hb:fe b) (hr:∀ x∈rs,wV x) (sU:cN a=true) (hrb:cN b=true) (hl:rs.length≤1000):fe ⟨a.name,a.imports++b.imports,a.inputs++b.inputs,a.tables++b.tables,a.funcs++b.funcs,a.cells++b.cells,a.b9++b.b9,a.stores++b.stores,rs⟩:=by
 have h1:=(dm sU).len;have h2:=(dm hrb).len;simp only[uses,ei,eE,List.length_append,List.length_map]at h1 h2;exact⟨ha.name,fun x h=>(List.mem_append.1 h).elim (ha.imports x) (hb.imports x),fun x h=>(List.mem_append.1 h).elim (ha.inputs x) (hb.inputs x),fun x h=>(List.mem_append.1 h).elim (ha.tables x) (hb.tables x),fun x h=>(List.mem_append.1 h).elim (ha.funcs x) (hb.funcs x),fun x h=>(List.mem_append.1 h).elim (ha.cells x) (hb.cells x),fun x h=>(List.mem_append.1 h).elim (ha.b9 x) (hb.b9 x),fun x h=>(List.mem_append.1 h).elim (ha.stores x) (hb.stores x),hr,by simp only[uses,ei,eE,List.length_append,List.length_map];omega⟩
end
end
end Go.Proofs.YtkfofnjfihfgkaaGreatDoor
