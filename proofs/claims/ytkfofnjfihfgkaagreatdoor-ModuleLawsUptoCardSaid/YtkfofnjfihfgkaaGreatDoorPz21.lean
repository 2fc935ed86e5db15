/- Parts of the proof, packed (JnM to Parc); each theorem bears its own conditions. -/
import Derived.Deep.Cut
import Derived.Test.YtkfofnjfihfgkaaGreatDoorPz20
set_option linter.unusedVariables false
set_option linter.unusedSimpArgs false
set_option maxRecDepth 100000
set_option maxHeartbeats 8000000
open Go.Proofs.Tryz
open Go.Lib renaming hid → aa
theorem aR {p:Prop} (h:p:=by rw[hw0];exact(cJ _).alloc (by simp) _):p:=h
namespace Go.Proofs.YtkfofnjfihfgkaaGreatDoor
open Go Go.RowKit Go.Proofs Sh Kb
section
section
variable {α:Type} {R:Rel α} {w w':World} {S:Nat→Prop} {v:Value} {xs ys:List α} {B T:Nat}
theorem cV.WH (h:cV R T B w S v xs) (hs:w.heap.size≤w') (hg:∀ g,v.ownBlock=some g→w'.heap[g]? =w.heap[g]?) (hS:∀ b,b<w.heap.size→S b→some b≠v.ownBlock→w'.heap[b]? =w.heap[b]?):cV R T B w' S v xs:=by
 obtain⟨css,h1,h2,h3,h4⟩:=h;refine⟨css,h1,⟨h2.1,?_⟩,h3,fun j cs x hc hx=>R.keep (h4 j cs x hc hx) ⟨hs,fun b hb q=>hS b hb q.1 q.2⟩⟩;rcases h2.2 with q|⟨g,cap,cur,rfl,hB,hb,rest⟩
 (·exact .inl q);exact .inr ⟨g,cap,cur,rfl,hB,by rw[hg g rfl];exact hb,rest⟩
end
theorem mb.sq {α:Type} {R:Rel α} {k T B n c:Nat} {w:World} {S:Nat→Prop} {A:Option Addr} {xs:List α} {E:Nat→List Value→Prop} (h:mb k T B w (bQ A n c) n E) (hn:n=xs.length) (hk:k=R.k) (hs:∀ b,B≤b→S b) (hE:∀ j cs x,E j cs→xs[j]? =some x→R.is w S cs x):Sq R w S A xs:=by
 obtain⟨css,h2,h3,h4,h5⟩:=h;subst hn hk;refine⟨css,h2,fun hn=>?_,fun j cs x hc hx=>hE j cs x (h5 j cs hc) hx⟩;have hl:0<xs.length:=by
  rw[← h2];cases css with
  |nil=>exact absurd rfl hn
  |cons x l=>simp
 obtain⟨g,cap',hv,hg1,hg2⟩:=h3.form hl;have hA:A=bS g 0:=(by injection hv);subst hA;refine⟨g,0,rfl,hs g hg1,hg2,fun j x hx i v hv'=>?_⟩;have:=h3.cells (g:=g) rfl (j*R.k+i) v (jY h4 j i x v hx hv');rw[Addr.add_lit]at this;simpa [Nat.add_assoc]using this
def ZB (Bb z0 b:Nat):Prop:=Bb≤b∧b<z0
section
variable {α:Type} {R:Rel α} {w w':World} {v v':Value} {xs xs' ys:List α} {Ba Bb z0 T i:Nat} {ta:Tag} {ph:Bool}
def JP (Ba Bb z0:Nat) (ta:Tag) (ph:Bool) (i:Nat) (R:Rel α) (T:Nat) (w:World) (v:Value) (xs:List α):Prop:=
 cV R T Ba w (fun b=>(b<Bb∧UT ta Ba i b)∨ZB Bb z0 b) v xs∧∀ g,v.ownBlock=some g→(g<Bb∧UT ta Ba i g)∨(ph=true∧z0≤g)
theorem JP.keep (h:JP Ba Bb z0 ta ph i R T w v xs) (hs:w.heap.size≤w') (hk:∀ b,b<w.heap.size→(b<Bb∧UT ta Ba i b)∨ZB Bb z0 b∨(ph=true∧z0≤b)→w'.heap[b]? =w.heap[b]?):JP Ba Bb z0 ta ph i R T w' v xs:=
 ⟨h.1.WH hs (fun g hg=>hk g (h.1.lt g hg).2 ((h.2 g hg).imp id .inr)) fun b hb q _=>hk b hb (q.imp id .inl),h.2⟩
theorem JP.more (h:JP Ba Bb z0 ta ph i R T w v xs) (hz:z0≤w.heap.size) (G:Grown R T Ba w (fun b=>(b<Bb∧UT ta Ba i b)∨ZB Bb z0 b) v xs' w' v'):JP Ba Bb z0 ta true i R T w' v' xs':=
 ⟨G.own,fun g hg=>by
  rcases G.row with e|e
  ·rcases h.2 g (e.symm.trans hg)with q|q
   (·exact .inl q);exact .inr ⟨rfl,q.2⟩
  rw[e]at hg;injection hg with hg;exact .inr ⟨rfl,by omega⟩⟩
theorem JP.ext (h:JP Ba Bb z0 ta false i R T w v xs) {A:Option Addr} (hy:Sq R w (ZB Bb z0) A ys):rH R w (fun b=>((b<Bb∧UT ta Ba i b)∨ZB Bb z0 b)∧some b≠v.ownBlock) A ys:=
 hy.ext.mono fun b _ q=>⟨.inr q,fun e=>by
  rcases h.2 b e.symm with q2|q2
  (·have:=q.1;omega);cases q2.1⟩
theorem JP.sq {A:Option Addr} {n c lo:Nat} (h:JP Ba Bb z0 ta ph i R T w (bQ A n c) xs) (hB:lo≤Ba) (hb:lo≤Bb):Sq R w (fun b=>lo≤b) A xs:=by
 obtain⟨css,h1,h2,h3,h4⟩:=h.1;have h9:cV R T Ba w (fun b=>Ba≤b∨Bb≤b) (bQ A n c) xs:=h.1.mono fun b _ q=>by
  rcases q with q|q
  (·exact .inl q.2.1);exact .inr q.1
 (have h8:cV R T Ba w (fun b=>lo≤b) (bQ A n c) xs:=h9.mono fun b _ q=>by rcases q with q|q<;>omega);(exact h8.sq fun b _ hb=>by omega)
end
theorem H6 {α:Type} {R R':Rel α} {w:World} {S S':Nat→Prop} {v:Value} {xs:List α} {B T:Nat} (h:cV R T B w S v xs) (hk:R.k=R'.k) (hi:∀ cs x,R.is w (fun b=>S b∧some b≠v.ownBlock) cs x→R'.is w (fun b=>S' b∧some b≠v.ownBlock) cs x):cV R' T B w S' v xs:=by
 obtain⟨css,h1,h2,h3,h4⟩:=h;exact⟨css,h1,hk▸h2,hk▸h3,fun j cs x hc hx=>hi cs x (h4 j cs x hc hx)⟩
structure J7 (Ba Bb z0:Nat) (ta:Tag) (w:World) (la:dU) (a:bY):Prop where
 p1:JP Ba Bb z0 ta false 1 gN 143 w (bQ la.A1 a.imports la.c1) a.imports
 p2:JP Ba Bb z0 ta false 2 jg 125 w (bQ la.A2 a.inputs la.c2) a.inputs
 p3:JP Ba Bb z0 ta false 3 fO 106 w (bQ la.A3 a.tables la.c3) a.tables
 p4:JP Ba Bb z0 ta false 4 jb 76 w (bQ la.A4 a.funcs la.c4) a.funcs
 p5:JP Ba Bb z0 ta false 5 dS 56 w (bQ la.A5 a.cells la.c5) a.cells
 p6:JP Ba Bb z0 ta false 6 lH 127 w (bQ la.A6 a.b9 la.c6) a.b9
 p7:JP Ba Bb z0 ta false 7 jh 136 w (bQ la.A7 a.stores la.c7) a.stores
section
variable {Ba Bb z0:Nat} {ta:Tag} {w w':World} {la:dU} {a:bY}
theorem J7.keep (h:J7 Ba Bb z0 ta w la a) (hs:w.heap.size≤w') (hk:∀ b,b<w.heap.size→(b<Bb∧∃ i,i<8∧UT ta Ba i b)∨ZB Bb z0 b→w'.heap[b]? =w.heap[b]?):J7 Ba Bb z0 ta w' la a:=by
 have k:∀ i,i<8→∀ b,b<w.heap.size→(b<Bb∧UT ta Ba i b)∨ZB Bb z0 b∨(false=true∧z0≤b)→w'.heap[b]? =w.heap[b]? :=fun i hi b hb q=>by
  rcases q with q|q|q
  (·exact hk b hb (.inl ⟨q.1,i,hi,q.2⟩))
  (·exact hk b hb (.inr q));cases q.1
 exact⟨h.p1.keep hs (k 1 ag),h.p2.keep hs (k 2 ag),h.p3.keep hs (k 3 ag),h.p4.keep hs (k 4 ag),h.p5.keep hs (k 5 ag),h.p6.keep hs (k 6 ag),h.p7.keep hs (k 7 ag)⟩
theorem SZ {T B TT:Nat} {U S:Nat→Prop} {v:Value} {xs:List eB} (h:dy (vw T B) TT B w U v xs) (hs:∀ b,b<w.heap.size→U b→S b):cV fO TT B w S v xs:=
 H6 h.JN rfl fun cs x ⟨A,c,e,q⟩=>⟨A,c,e,q.sq.mono fun b hb q=>⟨hs b hb q.1,q.2⟩⟩
theorem WI {T B TT:Nat} {U S:Nat→Prop} {v:Value} {xs:List eU} (h:dy (uT T B) TT B w U v xs) (hs:∀ b,b<w.heap.size→U b→S b):cV jb TT B w S v xs:=
 H6 h.JN rfl fun cs x ⟨A,c,es,t,e,q1,q2⟩=>⟨A,c,es,e,q1.sq.mono fun b hb q=>⟨hs b hb q.1.1,q.1.2⟩,q2.mono fun b hb q=>⟨hs b hb q.1.1,q.1.2⟩⟩
theorem WJ {T B TT:Nat} {U S:Nat→Prop} {v:Value} {xs:List dV} (h:dy (lJ T B) TT B w U v xs) (hs:∀ b,b<w.heap.size→U b→S b):cV gT TT B w S v xs:=
 H6 h.JN rfl fun cs x ⟨A1,c1,A2,c2,A3,c3,t,e,q1,q2,q3⟩=>⟨A1,c1,A2,c2,A3,c3,e,q1.sq.mono fun b hb q=>⟨hs b hb q.1.1,q.1.2⟩,q2.sq.mono fun b hb q=>⟨hs b hb q.1.1,q.1.2⟩,q3.sq.mono fun b hb q=>⟨hs b hb q.1.1,q.1.2⟩⟩
theorem J7.start (h:eO Ba w la a ta) (hB:w.heap.size≤Bb):J7 Ba Bb z0 ta w la a:=by
 have own:∀ {α:Type} {R:Rel α} {T i:Nat} {v:Value} {xs:List α},dy R T Ba w (UT ta Ba i) v xs→∀ g,v.ownBlock=some g→(g<Bb∧UT ta Ba i g)∨(false=true∧z0≤g):=fun h g hg=>by
  obtain⟨t,hU,hr⟩:=h;exact .inl ⟨by have:=(hr.lt g hg).2;omega,hU g hg⟩
 have inc:∀ i b,b<w.heap.size→UT ta Ba i b→(b<Bb∧UT ta Ba i b)∨ZB Bb z0 b:=fun i b hb q=> .inl ⟨by omega,q⟩;exact⟨⟨h.i1.JN.mono (inc 1),own h.i1⟩,⟨h.i2.JN.mono (inc 2),own h.i2⟩,⟨SZ h.i3 (inc 3),own h.i3⟩,⟨WI h.i4 (inc 4),own h.i4⟩,⟨h.i5.JN.mono (inc 5),own h.i5⟩,⟨h.i6.JN.mono (inc 6),own h.i6⟩,⟨h.i7.JN.mono (inc 7),own h.i7⟩⟩
def JM (Ba Bb z0:Nat) (ta:Tag) (t:Nat→Nat) (m b:Nat):Prop:=((b<Bb∧UT ta Ba 8 b)∨z0≤b)∧t b=m
def H7 (Ba Bb z0:Nat) (ta:Tag) (t:Nat→Nat) (w:World) (j:Nat) (cs:List Value) (x:cw):Prop:=
 ∃ A c,cs=[bV x.kind,bQ A x.steps c]∧cV gT 65 Ba w (fun b=>JM Ba Bb z0 ta t (j+1) b∨ZB Bb z0 b) (bQ A x.steps c) x.steps∧∀ g,(bQ A x.steps c).ownBlock=some g→JM Ba Bb z0 ta t (j+1) g
def JE (Ba Bb z0:Nat) (ta:Tag) (na:Nat) (t:Nat→Nat) (rs:List cw) (w:World) (j:Nat) (cs:List Value):Prop:=
 ∀ x,rs[j]? =some x→if j<na then H7 Ba Bb z0 ta t w j cs x else dL.is w (ZB Bb z0) cs x
def JR (Ba Bb z0:Nat) (ta:Tag) (na:Nat) (t:Nat→Nat) (w:World) (v:Value) (rs:List cw):Prop:=
 mb 2 62 Ba w v rs.length (JE Ba Bb z0 ta na t rs w)∧∀ g,v.ownBlock=some g→JM Ba Bb z0 ta t 0 g
theorem JR.start (h:eO Ba w la a ta) (hB:w.heap.size≤Bb):∃ t,JR Ba Bb z0 ta a.bX.length t w (bQ la.A8 a.bX la.c8) a.bX:=by
 obtain⟨tx,hU,hR⟩:=h.i8;refine⟨fun b=>if some b=(bQ la.A8 a.bX la.c8).ownBlock then 0 else tx b+1,hR.move (fun _ _=>rfl) fun j cs hj he x hx=>?_,fun g hg=>⟨.inl ⟨by have:=(hR.lt g hg).2;omega,hU g hg⟩,by show(if _ then _ else _)=_;rw[if_pos hg.symm]⟩⟩;rw[if_pos hj];obtain⟨A,c,e,q⟩:=he x hx;have mk:∀ b,b<w.heap.size→(UT ta Ba 8 b∧some b≠(bQ la.A8 a.bX la.c8).ownBlock∧tx b=j)→JM Ba Bb z0 ta (fun b=>if some b=(bQ la.A8 a.bX la.c8).ownBlock then 0 else tx b+1) (j+1) b:=fun b hb q=>⟨.inl ⟨by omega,q.1⟩,by show(if _ then _ else _)=_;rw[if_neg q.2.1,q.2.2]⟩;refine⟨A,c,e,WJ q fun b hb q=> .inl (mk b hb q),fun g hg=>?_⟩;obtain⟨t2,hU2,hR2⟩:=q;exact mk g (hR2.lt g hg).2 (hU2 g hg)
end
section
variable {Ba Bb z0 na:Nat} {ta:Tag} {t t':Nat→Nat} {w w' w1:World} {v:Value} {rs:List cw}
theorem H7.keep {j:Nat} {cs:List Value} {x:cw} (h:H7 Ba Bb z0 ta t w j cs x) (hs:w.heap.size≤w') (hk:∀ b,b<w.heap.size→JM Ba Bb z0 ta t (j+1) b∨ZB Bb z0 b→w'.heap[b]? =w.heap[b]?):H7 Ba Bb z0 ta t w' j cs x:=by
 obtain⟨A,c,e,q1,q2⟩:=h;exact⟨A,c,e,q1.WH hs (fun g hg=>hk g (q1.lt g hg).2 (.inl (q2 g hg))) fun b hb q _=>hk b hb q,q2⟩
theorem H7.gD {j:Nat} {cs:List Value} {x:cw} (h:H7 Ba Bb z0 ta t w j cs x) (ht:∀ b,b<w.heap.size→t' b=t b):H7 Ba Bb z0 ta t' w j cs x:=by
 obtain⟨A,c,e,q1,q2⟩:=h;exact⟨A,c,e,q1.mono fun b hb q=>q.imp (fun q=>⟨q.1,by rw[ht b hb];exact q.2⟩) id,fun g hg=>⟨(q2 g hg).1,by rw[ht g (q1.lt g hg).2];exact(q2 g hg).2⟩⟩
theorem JR.keep (h:JR Ba Bb z0 ta na t w v rs) (hs:w.heap.size≤w') (hk:∀ b,b<w.heap.size→(b<Bb∧UT ta Ba 8 b)∨z0≤b∨ZB Bb z0 b→w'.heap[b]? =w.heap[b]?):JR Ba Bb z0 ta na t w' v rs:=by
 have k:∀ m b,b<w.heap.size→JM Ba Bb z0 ta t m b∨ZB Bb z0 b→w'.heap[b]? =w.heap[b]? :=fun m b hb q=>by
  rcases q with q|q
  ·rcases q.1 with q|q
   (·exact hk b hb (.inl q));exact hk b hb (.inr (.inl q))
  exact hk b hb (.inr (.inr q))
 refine⟨h.1.move (fun g hg=>k 0 g (h.1.lt g hg).2 (.inl (h.2 g hg))) fun j cs hj he x hx=>?_,h.2⟩;have h9:=he x hx;split at h9
 (·(next q=>rw[if_pos q];exact h9.keep hs fun b hb=>k (j+1) b hb));(next q=>rw[if_neg q];exact dL.keep h9 ⟨hs,fun b hb q=>k 0 b hb (.inr q)⟩)
theorem JR.bU (h:JR Ba Bb z0 ta na t w v rs) (hb:Below w w w'):JR Ba Bb z0 ta na t w' v rs:=h.keep hb.size fun b hb' _=>hb.block b hb'
theorem JR.gD (h:JR Ba Bb z0 ta na t w v rs) (ht:∀ b,b<w.heap.size→t' b=t b):JR Ba Bb z0 ta na t' w v rs:=by
 refine⟨h.1.move (fun _ _=>rfl) fun j cs hj he x hx=>?_,fun g hg=>⟨(h.2 g hg).1,by rw[ht g (h.1.lt g hg).2];exact(h.2 g hg).2⟩⟩;have h9:=he x hx;split at h9
 (·(next q=>rw[if_pos q];exact h9.gD ht));(next q=>rw[if_neg q];exact h9)
theorem JR.sq {A:Option Addr} {n c lo:Nat} (h:JR Ba Bb z0 ta na t w (bQ A n c) rs) (hlo:lo≤Ba) (hb:lo≤Bb) (hz:lo≤z0):Sq dL w (fun b=>lo≤b) A rs:=by
 have all:∀ m b,JM Ba Bb z0 ta t m b∨ZB Bb z0 b→lo≤b:=fun m b q=>by
  rcases q with q|q
  ·rcases q.1 with q|q
   (·have:=q.2.1;omega);omega
  have:=q.1;omega
 obtain⟨A',c',e,_⟩:=h.1.slice;injection e with e1 e2 e3;subst e2;refine h.1.sq rfl rfl (fun b hb=>by omega) fun j cs x he hx=>?_;have h9:=he x hx;split at h9
 (·obtain⟨A2,c2,e,q1,q2⟩:=h9;exact⟨A2,c2,e,(q1.mono (S':=fun b=>lo≤b) fun b _ q=>all (j+1) b q).sq fun b _ hb=>by omega⟩);exact dL.mono h9 fun b _ q=>all 0 b (.inr q)
theorem JR.get {k:Nat} (h:JR Ba Bb z0 ta na t w v rs) {x:cw} (hx:rs[k]? =some x):∃ g c A c1,v=bQ (bS g 0) rs c∧g<w.heap.size∧bW w g (k*2) (bV x.kind)∧bW w g (k*2+1) (bQ A x.steps c1)∧(∀ i,w.frozen? (bS g i)=false)∧Sq gT w Any A x.steps∧JM Ba Bb z0 ta t 0 g:=by
 obtain⟨hk,CD⟩:=List.getElem?_eq_some_iff.1 hx;obtain⟨g,c,cs,hv,_,hlt,_,hE,hc,hf⟩:=h.1.get ag hk;have h9:=hE x hx;have hg0:=h.2 g (by rw[hv];rfl);split at h9
 (·obtain⟨A,c1,e,q1,_⟩:=h9;subst e;exact⟨g,c,A,c1,hv,hlt,hc 0 _ rfl,hc 1 _ rfl,hf,(q1.mono (S':=Any) fun _ _ _=>trivial).sq fun _ _ _=>trivial,hg0⟩);obtain⟨A,c1,e,q1⟩:=h9;subst e;exact⟨g,c,A,c1,hv,hlt,hc 0 _ rfl,hc 1 _ rfl,hf,q1.mono fun _ _ _=>trivial,hg0⟩
theorem xP {m m' b:Nat} (h:JM Ba Bb z0 ta t m b) (hm:m≠m'):¬(JM Ba Bb z0 ta t m' b∨(ZB Bb z0 b∧Bb≤z0)):=fun q=>by
 rcases q with q|q
 (·exact hm (h.2.symm.trans q.2));rcases h.1 with r|r
 (·have:=q.1.1;omega);have:=q.1.2;omega
theorem JR.push {n c':Nat} {A':Option Addr} {cs:List Value} {x:cw} (h:JR Ba Bb z0 ta na t w v rs) (hbz:Bb≤z0) (hx:dL.is w (ZB Bb z0) cs x) (hz:z0≤w.heap.size) (hna:na≤rs.length) (R9:mb 2 62 Ba w' (bQ A' n c') n fun j c2=>(j<rs.length∧JE Ba Bb z0 ta na t rs w j c2)∨(rs.length≤j∧[cs][j - rs.length]? =some c2)) (hn:n=rs.length+1) (hg:w.grownBy w' v.ownBlock) (hrow:(bQ A' n c').ownBlock=v.ownBlock∨(bQ A' n c').ownBlock=some w.heap.size):JR Ba Bb z0 ta na (fun b=>if b<w.heap.size then t b else 0) w' (bQ A' n c') (rs++[x]):=by
 subst hn;(have ht:∀ b,b<w.heap.size→(fun b=>if b<w.heap.size then t b else 0) b=t b:=fun b hb=>by show(if _ then _ else _)=_;rw[if_pos hb]);have off:∀ m b,m≠0→b<w.heap.size→JM Ba Bb z0 ta t m b∨ZB Bb z0 b→w'.heap[b]? =w.heap[b]? :=fun m b hm hb q=>hg.block b hb fun e=>xP (h.2 b e.symm) (Ne.symm hm) (q.imp id fun q=>⟨q,hbz⟩);refine⟨?_,fun g rI=>?_⟩
 ·rw[List.length_append];refine R9.move (fun _ _=>rfl) fun j c2 hj he y hy=>?_;rcases he with⟨hj2,he⟩|⟨hj2,he⟩
  ·rw[List.getElem?_append_left hj2]at hy;have h9:=he y hy;split at h9
   (·(next q=>rw[if_pos q];exact(h9.gD ht).keep hg.size fun b hb r=>off (j+1) b af hb (r.imp (fun r=>⟨r.1,(ht b hb).symm.trans r.2⟩) id)));(next q=>rw[if_neg q];exact dL.keep h9 ⟨hg.size,fun b hb q=>off 1 b ag hb (.inr q)⟩)
  have hj0:j=rs.length:=af;subst hj0;have e1:cs=c2:=(by simpa using he);have e2:x=y:=(by simpa using hy);subst e1 e2;rw[if_neg af];exact dL.keep hx ⟨hg.size,fun b hb q=>off 1 b ag hb (.inr q)⟩
 rcases hrow with e|e
 (·rw[e]at rI;have h9:=h.2 g rI;exact⟨h9.1,(ht g (h.1.lt g rI).2).trans h9.2⟩);rw[e]at rI;injection rI with rI;subst rI;exact⟨.inr hz,by show(if _ then _ else _)=_;rw[if_neg (Nat.lt_irrefl _)]⟩
theorem JR.patch {k g n c c0:Nat} {A:Option Addr} {x:cw} (h:JR Ba Bb z0 ta na t w (bQ (bS g 0) n c) rs) (hbz:Bb≤z0) (hz:z0≤w.heap.size) (hn:n=rs.length) (hk:k<na) (hx:rs[k]? =some x) (hc:bW w g (k*2+1) (bQ A x.steps c0)):∃ S:Nat→Prop,cV gT 65 Ba w S (bQ A x.steps c0) x.steps∧(∀ b,ZB Bb z0 b→S b∧some b≠(bQ A x.steps c0).ownBlock)∧∀ w1 zs A1 c1,Grown gT 65 Ba w S (bQ A x.steps c0) zs w1 (bQ A1 zs c1)→(∃ v,bW w1 g (k*2+1) v)∧(∀ i,w1.frozen? (bS g i)=false)∧(∀ b,b<w.heap.size→¬(b<Bb∧UT ta Ba 8 b)→b<z0→w1.heap[b]? =w.heap[b]?)∧(∀ b,b<w.heap.size→¬(b<Bb∧UT ta Ba 8 b)→b<z0→(w1.setCell (bS g (k*2+1)) (bQ A1 zs c1)).heap[b]? =w.heap[b]?)∧w.heap.size≤w1∧(w1.os=w.os∧w1.tape=w.tape∧w1.output=w.output)∧(∀ b i,b<w.heap.size→z0≤b→t b=na+1→w1.cell? (bS b i)=w.cell? (bS b i))∧JR Ba Bb z0 ta na (fun b=>if b<w.heap.size then t b else k+1) (w1.setCell (bS g (k*2+1)) (bQ A1 zs c1)) (bQ (bS g 0) n c) (rs.set k ⟨x.kind,zs⟩):=by
 subst hn;obtain⟨qW,uQ⟩:=List.getElem?_eq_some_iff.1 hx;obtain⟨g',c',cs,hv,_,hlt,_,hE,dn,hfz⟩:=h.1.get ag qW;(obtain⟨rfl⟩:g=g':=by injection hv with e _ _;injection e with e;injection e);have h9:=hE x hx;rw[if_pos hk]at h9;obtain⟨A',c'',e,q1,q2⟩:=h9;have e1:=(dn 1 _ bf).symm.trans hc;injection e1 with e1;injection e1 with e1 _ e2;subst e1 e2;have hg0:=h.2 g rfl;(have ht:∀ b,b<w.heap.size→(fun b=>if b<w.heap.size then t b else k+1) b=t b:=fun b hb=>by show(if _ then _ else _)=_;rw[if_pos hb]);refine⟨_,q1,fun b hb=>⟨.inr hb,fun q=>xP (q2 b q.symm) (by omega:k+1≠0) (.inr ⟨hb,hbz⟩)⟩,fun w1 zs A1 c1 G=>?_⟩;have off:∀ m b,m≠k+1→b<w.heap.size→JM Ba Bb z0 ta t m b∨ZB Bb z0 b→w1.heap[b]? =w.heap[b]? :=fun m b hm hb q=>G.turn.block b hb fun e=>xP (q2 b e.symm) (Ne.symm hm) (q.imp id fun q=>⟨q,hbz⟩);have Qq:w1.heap[g]? =w.heap[g]? :=off 0 g af hlt (.inl hg0);refine⟨⟨_,(World.cell?_of_block (a:=bS g (k*2+1)) Qq).trans hc⟩,fun i=>(World.frozen?_of_block (a:=bS g i) Qq).trans (hfz i),fun b hb hnu hbz0=>G.turn.block b hb fun e=>(by rcases(q2 b e.symm).1 with q|q;exact hnu q;omega),fun b hb hnu hbz0=>?_,G.turn.size,⟨G.turn.os,G.turn.tape,G.turn.output⟩,fun b i hb hbz0 htb=>?_,?_,fun g9 rI=>?_⟩
 ·have hbg:b≠g:=fun e=>by
   rw[← e]at hg0;rcases hg0.1 with q|q
   (·exact hnu q);omega
  rw[Below.heap_setCell w1 (bS g (k*2+1)) _ b hbg];refine G.turn.block b hb fun e=>?_;rcases(q2 b e.symm).1 with q|q
  (·exact hnu q);omega
 (·exact World.cell?_of_block (a:=bS b i) (G.turn.block b hb fun e=>by have:=(q2 b e.symm).2;omega))
 ·rw[List.length_set];have hm:=h.1.move (w':=w1) (E':=fun j cs=>if j=k then ∃ A' c',cs=[bV x.kind,bQ A' x.steps c']else ∀ y,rs[j]? =some y→if j<na then H7 Ba Bb z0 ta (fun b=>if b<w.heap.size then t b else k+1) w1 j cs y else dL.is w1 (ZB Bb z0) cs y) (fun g9 rI=>(show g=g9 by simpa [Value.ownBlock]using rI)▸Qq) fun j vH hj he=>by
   by_cases q:j=k
   (·rw[if_pos q];subst q;have h8:=he x hx;rw[if_pos hk]at h8;obtain⟨A',c',e',_⟩:=h8;exact⟨A',c',e'⟩);rw[if_neg q];intro y hy;have h8:=he y hy;split at h8
   (·(next r=>rw[if_pos r];exact(h8.gD ht).keep G.turn.size fun b hb r=>off (j+1) b af hb (r.imp (fun r=>⟨r.1,(ht b hb).symm.trans r.2⟩) id)));(next r=>rw[if_neg r];exact dL.keep h8 ⟨G.turn.size,fun b hb r=>off 0 b af hb (.inr r)⟩)
  have oZ:∀ b,b≠g→(w1.setCell (bS g (k*2+1)) (bQ A1 zs c1)).heap[b]? =w1.heap[b]? :=fun b hb=>Below.heap_setCell w1 (bS g (k*2+1)) _ b hb;have hp:=hm.put (E':=fun j cs=>if j=k then ∃ A' c',cs=[bV x.kind,bQ A1 zs c1]else ∀ y,rs[j]? =some y→if j<na then H7 Ba Bb z0 ta (fun b=>if b<w.heap.size then t b else k+1) w1 j cs y else dL.is w1 (ZB Bb z0) cs y) qW (by decide:1<2) (bQ A1 zs c1) (fun vH _ he=>by
   rw[if_pos rfl]at he ⊢;obtain⟨A',c',e'⟩:=he;exact⟨A',c',by rw[e'];rfl⟩) (fun j vH hj _ he=>by rw[if_neg hj]at he ⊢;exact he)
  have G1:cV gT 65 Ba w1 (fun b=>JM Ba Bb z0 ta t (k+1) b∨ZB Bb z0 b) (bQ A1 zs c1) zs:=G.own;refine hp.move (fun _ _=>rfl) fun j vH hj he y hy=>?_;have hgj:∀ m b,JM Ba Bb z0 ta (fun b=>if b<w.heap.size then t b else k+1) (m+1) b∨ZB Bb z0 b→b≠g:=fun m b q e=>by
   subst e;exact xP ⟨hg0.1,(ht b hlt).trans hg0.2⟩ (by omega:(0:Nat)≠m+1) (q.imp id fun q=>⟨q,hbz⟩)
  by_cases q:j=k
  ·rw[if_pos q]at he;obtain⟨_,_,e'⟩:=he;rw[q,List.getElem?_set_self qW]at hy;injection hy with hy;subst hy;rw[q,if_pos hk];have UH:∀ b,JM Ba Bb z0 ta t (k+1) b→JM Ba Bb z0 ta (fun b=>if b<w.heap.size then t b else k+1) (k+1) b:=fun b r=>⟨r.1,by show(if _ then _ else _)=_;split;exact r.2;rfl⟩;have hown:∀ g9,(bQ A1 zs c1).ownBlock=some g9→JM Ba Bb z0 ta (fun b=>if b<w.heap.size then t b else k+1) (k+1) g9:=fun g9 rI=>by
    rcases G.row with e|e
    (·exact UH g9 (q2 g9 (e.symm.trans rI)));rw[e]at rI;injection rI with rI;subst rI;exact⟨.inr hz,by show(if _ then _ else _)=_;rw[if_neg (Nat.lt_irrefl _)]⟩
   refine⟨A1,c1,e',(G1.mono fun b _ r=>r.imp (UH b) id).WH bM (fun g9 rI=>oZ g9 (hgj k g9 (.inl (hown g9 rI)))) fun b _ r _=>oZ b (hgj k b r),hown⟩
  rw[if_neg q]at he;rw[List.getElem?_set_ne (fun e=>q e.symm)]at hy;have h8:=he y hy;split at h8
  (·(next r=>rw[if_pos r];exact h8.keep bM fun b _ q=>oZ b (hgj j b q)));(next r=>rw[if_neg r];exact dL.keep h8 ⟨by simp[World.setCell],fun b _ q=>oZ b (hgj 0 b (.inr q))⟩)
 have e9:g=g9:=(by simpa [Value.ownBlock]using rI);rw[← e9];exact⟨hg0.1,(ht g hlt).trans hg0.2⟩
end
theorem Bi {P:Program} {k T t B n:Nat} {w:World} {v:Value} {E:Nat→List Value→Prop} {ops:Array Oper} {rest:List Oper} {o:Oper} {a:Act} {Q:Exit→Act→World→Prop} (hgd:o.guard=none) (s x:Operand) (tt:TypeId) (htt:tt=t) (ho:o.op= .call {callee:= .builtin .append,args:=#[s,x],argTypes:=#[tt,tt]}) (I:Fq P t T k) (hR:mb k T B w v n E) (hs:a.eval s=v) (A:Option Addr) (m c:Nat) (hx:a.eval x=bQ A m c) (EJ:List (List Value)) (hm:EJ.length=m) (hk:∀ cs∈EJ,cs.length=k) (h1:∀ cs∈EJ,∀ u∈cs,u.oneCell'=true) (hN:Rows w Any A k EJ) (hl:n+m≤100000000000) (hB:B≤w.heap.size) (hK:∀ A' c' w',n+m≤c'→Hid (mb k T B w' (bQ A' (n+m) c') (n+m) fun j cs=>(j<n∧E j cs)∨(n≤j∧EJ[j - n]? =some cs))→Hid (w.grownBy w' v.ownBlock)→Hid ((bQ A' (n+m) c').ownBlock=v.ownBlock∨(bQ A' (n+m) c').ownBlock=some w.heap.size)→wpList P ops Q rest (a.put o.dst (bQ A' (n+m) c')) w'):wpList P ops Q (o :: rest) a w:=by
 subst htt hm;obtain⟨hu,hk0,i0,z,bytes,ug,hz0,hz1,hz2,hz3,hb⟩:=I;obtain⟨css,e1,e2,e3,e4⟩:=hR;have hr:=Cu hN hk hk0;refine wpList_plain hgd fun _ hKK=>nS w s x _ ho B T i0 z k bytes hu ug hz0 hz1 hz2 hz3 hk0 v n css.flatten hs e2 w A EJ.length c EJ.flatten hx hr (fun u hu=>?_) aT ?_ hB fun v' w' g1 g2 g3=>?_
 (·obtain⟨cs,hcs,hu⟩:=List.mem_flatten.1 hu;exact h1 cs hcs u hu)
 (·exact Nat.le_trans (Nat.mul_le_mul hl hb) ag);obtain⟨A',c',e,hc,_⟩:=iU g1;subst e;refine hKK _ _ (hK A' c' w' hc (aa ⟨css++EJ,by simp[e1],by simpa using g1,fun cs hcs=>(List.mem_append.1 hcs).elim (e3 cs) (hk cs),fun j cs hj=>?_⟩) (aa g2) (aa g3));rcases Nat.lt_or_ge j n with q|q
 (·rw[List.getElem?_append_left af]at hj;exact .inl ⟨q,e4 j cs hj⟩);rw[List.getElem?_append_right af,e1]at hj;exact .inr ⟨q,hj⟩
theorem WK {w:World} {cs:List Value} {n:Nat} (e:TypeId) (k:Nat) (hn:n=w.heap.size):Rows (w.alloc (.cells cs.toArray e)) Any (bS n 0) k [cs]:=fun _=>⟨n,0,rfl,trivial,by rw[hn];simp,fun j c hj i u hu=>by
 (have hj0:j=0:=by have:=(List.getElem?_eq_some_iff.1 hj).1;simpa using this);subst hj0;have hc:cs=c:=bB;subst hc;rw[hn,cell_of_row _ _ _ _ _ _ (heap_alloc_new w _)];simpa using hu⟩
end
theorem BC (a b:ByteArray):(a.toList==b.toList)=(a==b):=by
 rw[Lib.toList_data,Lib.toList_data,Gx];by_cases q:a=b
 (·subst q;simp);have q2:¬a.data.toList=b.data.toList:=fun e=>q (by
  have:a.data=b.data:=Array.toList_inj.1 e;cases ha:a;cases hb:b;rw[ha,hb]at this;simpa using this)
 have q3:¬a.data=b.data:=fun e=>q2 (by rw[e]);simp[q,q3]
def RetI (r:Int) (w:World) (e:Ending) (w':World):Prop:=e= .returned (bR r)∧w=w'
theorem S_ (A:Option Addr) (c:Nat) (xs:List ByteArray) (v:ByteArray) (w:World) (hs:Sq dw w Any A xs) (hl:xs.length≤1000000000):Calls prog 158 #[bQ A xs c,bV v] w (RetI (rU (fun x=>v==x) xs) w):=by
 generalize hP:RetI (rU (fun x=>v==x) xs) w=P;have HP:=aa (show ∀ e w',RetI (rU (fun x=>v==x) xs) w e w'→P e w' from fun e w' h=>hP▸h);clear hP;have HS:=aa hs;obtain⟨n,hn⟩:∃ n,n=xs.length:=⟨_,rfl⟩;rw[← hn]at hl ⊢;have HN:=aa hn;clear hs hn;go_enter func158,ntmps158;go_wp2_with fail;go_loopw [5,8] (fun v5 s8 wr=>∃ k:Nat,k≤n∧s8=bR (k:Int)∧Hid (wr=w)∧Hid (∀ j (h:j<xs.length),j<k→(v==xs[j])=false)) (fun _ s8 _=>n - (intOf s8).toNat);(case atStart=>exact⟨0,Nat.zero_le _,rfl,aa rfl,aa fun j _ h=>by omega⟩);obtain⟨k,hk,rfl,HW,HA⟩:=hrel;have hw:=HW.o;subst hw;clear HW;by_cases hlt:k<n;case pos=>
  (have uQ:k<xs.length:=by have:=HN.o;omega);obtain⟨b,o,cs,hA,_,hb,ep,dn⟩:=HS.o.get uQ;subst hA;have hcs:cs=[bV xs[k]]:=ep;subst hcs;(have h0:bW wr b (o+k) (bV xs[k]):=by have:=dn 0 _ rfl;rw[show dw.k=1 from rfl,Nat.mul_one]at this;exact this);have he:=BC v xs[k];cases hq:(v==xs[k])with
  |true=>
   rw[hq]at he;have HI:=aa (show rU (fun x=>v==x) xs=(k:Int) by
    unfold rU;rw[List.findIdx?_eq_some_iff_getElem.2 ⟨uQ,hq,fun j hj=>by rw[HA.o j af hj];simp⟩])
   generalize xs[k]=x at h0 he;clear dn hq ep;go_wp2_with fail;exact HP.o (.returned (bR k)) _ ⟨by rw[HI.o],rfl⟩
  |false=>
   rw[hq]at he;have Jy:=aa (show ∀ j (h:j<xs.length),j<k+1→(v==xs[j])=false from fun j h hj=>by
    rcases Nat.lt_succ_iff_lt_or_eq.1 hj with h1|h1
    (·exact HA.o j h h1);subst h1;exact hq)
   generalize xs[k]=x at h0 he;clear dn hq ep;go_wp2_with fail;go_roundw;(case rel=>exact⟨k+1,by omega,rfl,aa trivial,Jy⟩);(case measure=>simp[intOf];omega)
 have HI:=aa (show rU (fun x=>v==x) xs=-1 by
  unfold rU;rw[List.findIdx?_eq_none_iff.2 fun x hx=>by
   obtain⟨j,hj,rfl⟩:=List.getElem_of_mem hx;exact HA.o j hj (by have:=HN.o;omega)])
 go_wp2_with fail;exact HP.o (.returned (bR (-1))) _ ⟨by rw[HI.o],rfl⟩
def Ta (r:Bool) (w:World) (e:Ending) (w':World):Prop:=e= .returned (.bool r)∧w=w'
theorem H9 (A:Option Addr) (c:Nat) (xs:List ByteArray) (v:ByteArray) (w:World) (hs:Sq dw w Any A xs) (hl:xs.length≤1000000000):Calls prog 106 #[bQ A xs c,bV v] w (Ta (xs.contains v) w):=by
 generalize hP:Ta (xs.contains v) w=P;have HP:=aa (show ∀ e w',Ta (xs.contains v) w e w'→P e w' from fun e w' h=>hP▸h);clear hP;have HI:=aa (S_ A c xs v w hs hl);have HE:=aa (show xs.contains v=decide (0≤rU (fun x=>v==x) xs) by rw[List.contains_eq_any_beq,UK]);clear hs hl;generalize hz:rU (fun x=>v==x) xs=z at HI HE;clear hz;go_enter func106,ntmps106;go_wp2_with fail;refine HI.o.mono ?_;rintro e w1 ⟨rfl,rfl⟩;go_wp2_with fail;exact HP.o (.returned (.bool (decide (0≤z)))) _ ⟨by rw[HE.o],rfl⟩
theorem Tb (pb:Nat) (B:Option Addr) (d:Nat) (ys:List ByteArray) (s:ByteArray) (w:World) (hb:bW w pb 0 (bQ B ys d)) (hs:Sq dw w Any B ys) (hl:ys.length≤1000000000):Calls prog 105 #[bV s,.pointer (bS pb 0)] w (Ta (ys.contains s) w):=by
 generalize hP:Ta (ys.contains s) w=P;have HP:=aa (show ∀ e w',Ta (ys.contains s) w e w'→P e w' from fun e w' h=>hP▸h);clear hP;have HI:=aa (H9 B d ys s w hs hl);generalize ys.contains s=z at HI HP;clear hs hl;go_enter func105,ntmps105;go_wp2_with fail;refine HI.o.mono ?_;rintro e w1 ⟨rfl,rfl⟩;go_wp2_with fail;exact HP.o (.returned (.bool z)) _ ⟨rfl,rfl⟩
def F8 (r:Bool) (w:World) (e:Ending) (w':World):Prop:=e= .returned (.bool r)∧Below w w w'
theorem xQ (A:Option Addr) (c:Nat) (xs:List ByteArray) (B:Option Addr) (d:Nat) (ys:List ByteArray) (w:World) (hx:Sq dw w Any A xs) (hy:Sq dw w Any B ys) (hlx:xs.length≤1000000000) (hly:ys.length≤1000000000):Calls prog 36 #[bQ A xs c,bQ B ys d] w (F8 (mF xs ys) w):=by
 generalize hP:F8 (mF xs ys) w=P;have HP:=aa (show ∀ e w',F8 (mF xs ys) w e w'→P e w' from fun e w' h=>hP▸h);clear hP;have hb1:Below w w (w.alloc (.cells #[bQ B ys d] 63)):=cJ _;have HC:=aa (show Calls prog 104 #[bQ A xs c,.func (.func 105) #[] #[.pointer (bS w 0)]] (w.alloc (.cells #[bQ B ys d] 63)) _ from
  wT (fun s=>ys.contains s) 105 #[.pointer (bS w 0)] (enters_of func105 ai rfl) A c xs _ (fun x _ W hW=>(Tb w B d ys x W ((hW.cell (p:=bS w 0) aj).trans (cH.cell (heap_alloc_new w _) 0)) ((hy.bU hb1).bU hW) hly).mono fun e w' h=>⟨h.1,0,h.2.symm⟩) aT (hx.bU hb1))
 have HB:=aa hb1;have HM:=aa (show mF xs ys=xs.any fun s=>ys.contains s from rfl);generalize hz:(xs.any fun s=>ys.contains s)=z at HC HM;clear hz hx hy hlx hly hb1;go_enter func36,ntmps36;go_wp2_with fail;refine HC.o.mono ?_;rintro e w1 ⟨rfl,n,rfl⟩;have HW:=aa (show Below w w ((w.alloc (.cells #[bQ B ys d] 63)).drewN n)from⟨HB.o.os,HB.o.tape,HB.o.output,HB.o.size,HB.o.block⟩);generalize (w.alloc (.cells #[bQ B ys d] 63)).drewN n=wz at HW ⊢;go_wp2_with fail;exact HP.o (.returned (.bool z)) _ ⟨by rw[HM.o],HW.o⟩
def Tc (nm:ByteArray) (t:eB):Bool:=t.name==nm
def La (ts:List eB) (q:mX):Bool:=ts.any (Tc q.name)
def NN (ts:List eB) (f:eU):Bool:=f.params.any (La ts)
theorem Td (pp:Nat) (nm:ByteArray) (l:List eB) (w:World) (hc:bW w pp 0 (bV nm)) (hp:pp<w.heap.size):jN prog 112 #[.pointer (bS pp 0)] fO (Tc nm) l w:=fun W cs x hx ep hb=>by
 obtain⟨A,c,e,_⟩:=ep;subst e;have h0:bW W pp 0 (bV nm):=(hb.cell (p:=bS pp 0) hp).trans hc;have hpW:pp<W.heap.size:=Nat.lt_of_lt_of_le hp hb.size;have HE:=aa (show(x.name.toList==nm.toList)=Tc nm x from BC _ _);generalize Tc nm x=z at HE;generalize x.name=xn at HE;generalize x.unit=xu;generalize x.rows.length=xl;show Calls prog 112 #[.agg #[bV xn,bV xu,bQ A xl c],.pointer (bS pp 0)] W _;go_enter func112,ntmps112;go_wp2_with fail;go_ret;exact⟨by show Ending.returned (.bool (xn.toList==nm.toList))=_;rw[HE.o],cJ _⟩
theorem Te (pb:Nat) (C:Option Addr) (c:Nat) (ts:List eB) (l:List mX) (w:World) (hc:bW w pb 3 (bQ C ts c)) (hp:pb<w.heap.size) (hs:Sq fO w Any C ts) (hl:ts.length≤1000000000):
 jN prog 110 #[.pointer (bS pb 0)] jM (La ts) l w:=fun W cs x hx ep hb=>by
 have e:cs=[bV x.name,bV x.unit]:=ep
 subst e
 have h0:bW W pb 3 (bQ C ts c):=(hb.cell (p:=bS pb 3) hp).trans hc
 have hpW:pb<W.heap.size:=Nat.lt_of_lt_of_le hp hb.size
 generalize hP:(fun e w'=>e=Ending.returned (.bool (La ts x))∧Below W W w')=P
 have HP:=aa (show ∀ e w',(e=Ending.returned (.bool (La ts x))∧Below W W w')→P e w' from fun e w' h=>hP▸h)
 clear hP
 have hb1:Below W W (W.alloc (.cells #[bV x.name,bV x.unit] 78)):=cJ _
 have HC:=aa (Cl (Tc x.name) 112 #[.pointer (bS W 0)] (enters_of func112 ai rfl) C c ts (W.alloc (.cells #[bV x.name,bV x.unit] 78)) (Td W x.name ts _ (cH.cell (heap_alloc_new W _) 0) aj) aT ((hs.bU hb).bU hb1))
 have HB:=aa hb1
 have HZ:=aa (show ts.any (Tc x.name)=La ts x from rfl)
 generalize La ts x=z at HZ HP
 rw[HZ.o]at HC
 generalize x.name=xn at HC HB ⊢
 generalize x.unit=xu at HC HB ⊢
 clear hb1 hs hl HZ ep
 show Calls prog 110 #[.agg #[bV xn,bV xu],.pointer (bS pb 0)] W _
 go_enter func110,ntmps110
 go_wp2_with fail
 refine HC.o.mono ?_
 rintro e w1 ⟨rfl,hb2⟩
 have HW:=aa (HB.o.trans (hb2.mono HB.o.size))
 clear hb2
 go_wp2_with fail
 exact HP.o (.returned (.bool z)) _ ⟨rfl,HW.o⟩
theorem Tf (pb:Nat) (C:Option Addr) (c:Nat) (ts:List eB) (l:List eU) (w:World) (hc:bW w pb 3 (bQ C ts c)) (hp:pb<w.heap.size) (hs:Sq fO w Any C ts) (hl:ts.length≤1000000000) (hq:∀ f∈l,f.params.length≤maxLen):
 jN prog 108 #[.pointer (bS pb 0)] jb (NN ts) l w:=fun W cs x hx ep hb=>by
 obtain⟨A,d,es,e,hsp,hie⟩:=ep
 obtain⟨op,n,un,nm,A2,c2,ar,_,hes,_⟩:=hie.parts
 subst hes e
 have h0:bW W pb 3 (bQ C ts c):=(hb.cell (p:=bS pb 3) hp).trans hc
 have hpW:pb<W.heap.size:=Nat.lt_of_lt_of_le hp hb.size
 generalize hP:(fun e w'=>e=Ending.returned (.bool (NN ts x))∧Below W W w')=P
 have HP:=aa (show ∀ e w',(e=Ending.returned (.bool (NN ts x))∧Below W W w')→P e w' from fun e w' h=>hP▸h)
 clear hP
 have hb1:Below W W (W.alloc (.cells #[bV x.name,bQ A x.params d,bR op,bR n,bV un,bV nm,bQ A2 ar c2] 76)):=cJ _
 have HC:=aa (tD (La ts) 110 #[.pointer (bS pb 0)] (enters_of func110 ai rfl) A d x.params (W.alloc (.cells #[bV x.name,bQ A x.params d,bR op,bR n,bV un,bV nm,bQ A2 ar c2] 76))
  (Te pb C c ts x.params _ ((hb1.cell (p:=bS pb 3) hpW).trans h0) aq ((hs.bU hb).bU hb1) hl) (hq x hx) (hsp.bU hb1))
 have HB:=aa hb1
 have HZ:=aa (show x.params.any (La ts)=NN ts x from rfl)
 generalize NN ts x=z at HZ HP
 rw[HZ.o]at HC
 generalize x.name=xn at HC HB ⊢
 generalize x.params.length=xl at HC HB ⊢
 clear hb1 hs hl HZ hsp hie hx hq
 show Calls prog 108 #[.agg #[bV xn,bQ A xl d,bR op,bR n,bV un,bV nm,bQ A2 ar c2],.pointer (bS pb 0)] W _
 go_enter func108,ntmps108
 go_wp2_with fail
 refine HC.o.mono ?_
 rintro e w1 ⟨rfl,hb2⟩
 have HW:=aa (HB.o.trans (hb2.mono HB.o.size))
 clear hb2
 go_wp2_with fail
 exact HP.o (.returned (.bool z)) _ ⟨rfl,HW.o⟩
theorem F9 (la lb:dU) (a b:bY) (w:World) (ha:cB w Any la a) (hb:cB w Any lb b) (hl1:a.funcs.length≤1000000000) (hl2:b.tables.length≤1000000000) (hq:∀ f∈a.funcs,f.params.length≤maxLen):Calls prog 38 #[.agg (cn la a).toArray,.agg (cn lb b).toArray] w (F8 (jf a b) w):=by
 generalize hP:F8 (jf a b) w=P;have HP:=aa (show ∀ e w',F8 (jf a b) w e w'→P e w' from fun e w' h=>hP▸h);clear hP;obtain⟨A1,c1,A2,c2,A3,c3,A4,c4,A5,c5,A6,c6,A7,c7,A8,c8⟩:=la;obtain⟨B1,d1,B2,d2,B3,d3,B4,d4,B5,d5,B6,d6,B7,d7,B8,d8⟩:=lb;have HFS:=aa ha.funcs;have HTS:=aa hb.tables;have HZ:=aa (show jf a b=a.funcs.any (NN b.tables)from rfl);have HQ:=aa hq;clear ha hb hq;simp only[cn];go_enter func38,ntmps38;go_upto_region 1 with fail;obtain⟨w0,hw0⟩:∃ w0,w0=(w.alloc (.cells (cz a A1 A2 A3 A4 A5 A6 A7 A8 c1 c2 c3 c4 c5 c6 c7 c8) 31)).alloc (.cells (cz b B1 B2 B3 B4 B5 B6 B7 B8 d1 d2 d3 d4 d5 d6 d7 d8) 31):=⟨_,rfl⟩;have hb0:Below w w w0:=aR;have hk:cH w0 w 31 (cz a A1 A2 A3 A4 A5 A6 A7 A8 c1 c2 c3 c4 c5 c6 c7 c8):=(by rw[hw0];exact cH.alloc (heap_alloc_new w _) _);(have hk2:cH w0 (w+1) 31 (cz b B1 B2 B3 B4 B5 B6 B7 B8 d1 d2 d3 d4 d5 d6 d7 d8):=by rw[hw0];have h9:=heap_alloc_new (w.alloc (.cells (cz a A1 A2 A3 A4 A5 A6 A7 A8 c1 c2 c3 c4 c5 c6 c7 c8) 31)) (.cells (cz b B1 B2 B3 B4 B5 B6 B7 B8 d1 d2 d3 d4 d5 d6 d7 d8) 31);rwa [show(w.alloc (.cells (cz a A1 A2 A3 A4 A5 A6 A7 A8 c1 c2 c3 c4 c5 c6 c7 c8) 31)).heap.size=w.heap.size+1 by simp]at h9);rw[← hw0];clear hw0;have x:=hk.cell;have HC:=aa (EF (NN b.tables) 108 #[.pointer (bS (w+1) 0)] (enters_of func108 ai rfl) A4 c4 a.funcs w0 (Tf (w+1) B3 d3 b.tables a.funcs w0 (hk2.cell 3) hk2.lt (HTS.o.bU hb0) hl2 HQ.o) aT (HFS.o.bU hb0));have HB:=aa hb0;rw[← HZ.o]at HC;clear hb0 hk hk2 HFS HTS HQ HZ hl1 hl2;generalize jf a b=z at HC HP;go_wp2_with fail;refine HC.o.mono ?_;rintro e w1 ⟨rfl,hb2⟩;have HW:=aa (HB.o.trans (hb2.mono HB.o.size));clear hb2;go_wp2_with fail;exact HP.o (.returned (.bool z)) _ ⟨rfl,HW.o⟩
theorem oq (s:bY):(gF s).map (nameAt s)=(bZ s).map some:=by
 unfold gF bZ;simp only[List.map_append];simp only[lA s.imports .imp (nameAt s) (·.name) (fun _=>rfl),lA s.inputs .inp (nameAt s) (·.name) (fun _=>rfl),lA s.tables .tab (nameAt s) (·.name) (fun _=>rfl),lA s.funcs .fn (nameAt s) (·.name) (fun _=>rfl),lA s.cells .cell (nameAt s) (·.name) (fun _=>rfl),lA s.b9 .port (nameAt s) (·.name) (fun _=>rfl),lA s.stores .store (nameAt s) (·.name) (fun _=>rfl)]
theorem Sq.oM {α:Type} {R:Rel α} {w:World} {S:Nat→Prop} {A:Option Addr} {xs:List α} {j b o:Nat} {nm:ByteArray} (h:Sq R w S A xs) (g:α→ByteArray) (hn:xs[j]?.map g=some nm) (hA:A=bS b o) (hg:∀ cs x,R.is w S cs x→cs[0]? =some (bV (g x))):bW w b (o+j*R.k) (bV nm)∧b<w.heap.size:=by
 cases hz:xs[j]? with
 |none=>rw[hz]at hn;cases hn
 |some z=>
  rw[hz]at hn;have e:g z=nm:=aap;obtain⟨hj,QV⟩:=List.getElem?_eq_some_iff.1 hz;obtain⟨b',o',cs,hA',_,hlt,ep,hc⟩:=h.get hj;rw[hA]at hA';injection hA' with e1;injection e1 with e1 e2;subst e1 e2;refine⟨?_,hlt⟩;rw[QV]at ep;rw[← e];exact hc 0 _ (hg cs z ep)
theorem cB.oM {w:World} {S:Nat→Prop} {a:dU} {s:bY} {l:fJ} {q:Addr} {n:ByteArray} (h:cB w S a s) (hat:At w a l q) (hl:l∈gF s) (hn:nameAt s l=some n):∃ b o,q=bS b o∧bW w b o (bV n)∧b<w.heap.size:=by
 have hk:=vM hl;cases l with
 |sin r k i=>simp[rD]at hk
 |qd r k i=>simp[rD]at hk
 |kG r k i=>simp[rD]at hk
 |jR r k=>simp[rD]at hk
 |imp j=>obtain⟨b,o,hA,hq⟩:=hat;exact⟨_,_,hq,h.imports.oM (·.name) hn hA fun cs x e=>by rw[show cs=_ from e];rfl⟩
 |inp j=>obtain⟨b,o,hA,hq⟩:=hat;exact⟨_,_,hq,h.inputs.oM (·.name) hn hA fun cs x e=>by rw[show cs=_ from e];rfl⟩
 |tab j=>obtain⟨b,o,hA,hq⟩:=hat;exact⟨_,_,hq,h.tables.oM (·.name) hn hA fun cs x ⟨A,c,e,_⟩=>by rw[e];rfl⟩
 |fn j=>obtain⟨b,o,hA,hq⟩:=hat;exact⟨_,_,hq,h.funcs.oM (·.name) hn hA fun cs x ⟨A,c,es,e,_⟩=>by rw[e];rfl⟩
 |cell j=>obtain⟨b,o,hA,hq⟩:=hat;exact⟨_,_,hq,h.cells.oM (·.name) hn hA fun cs x ⟨es,e,_⟩=>by rw[e];rfl⟩
 |port j=>obtain⟨b,o,hA,hq⟩:=hat;exact⟨_,_,hq,h.b9.oM (·.name) hn hA fun cs x e=>by rw[show cs=_ from e];rfl⟩
 |store j=>obtain⟨b,o,hA,hq⟩:=hat;exact⟨_,_,hq,h.stores.oM (·.name) hn hA fun cs x e=>by rw[show cs=_ from e];rfl⟩
theorem list_at {w wr:World} {a:dU} {s:bY} {qs:List Addr} {A:Option Addr} {n c k:Nat} (hI:cB w Any a s) (h:jo w a (gF s) qs (bQ A n c) wr) (hk:k<(gF s).length):∃ b o qb qo nm,A=bS b o∧bW wr b (o+k) (.pointer (bS qb qo))∧b<wr.heap.size∧bW wr qb qo (bV nm)∧qb<wr.heap.size∧(bZ s)[k]? =some nm:=by
 (have LX:(bZ s).length=(gF s).length:=by have:=congrArg List.length (oq s);simpa using this.symm);obtain⟨l,hl⟩:∃ l,(gF s)[k]? =some l:=⟨_,List.getElem?_eq_getElem hk⟩;obtain⟨nm,hn⟩:∃ n,(bZ s)[k]? =some n:=⟨_,List.getElem?_eq_getElem af⟩;have hqk:k<qs.length:=(by rw[h.ok.1];exact hk);have hnl2:nameAt s l=some nm:=by
  have h9:=congrArg (fun x=>x[k]?) (oq s);simp only[List.getElem?_map,hl,hn,Option.map_some]at h9;exact Option.some.inj h9
 have hat:=h.ok.2 k l qs[k] hl (List.getElem?_eq_getElem hqk);obtain⟨qb,qo,hq,hc,hlt⟩:=hI.oM hat (List.mem_of_getElem? hl) hnl2;obtain⟨b,o,cs,hA,_,hblt,ep,dn⟩:=(h.own.sq (S:=Any) fun _ _ _=>trivial).get hqk;have hcs:cs=[.pointer (some qs[k])]:=ep;subst hcs;have hrow:=dn 0 _ rfl;rw[show mR.k=1 from rfl,Nat.mul_one,hq]at hrow;exact⟨b,o,qb,qo,nm,hA,hrow,hblt,(h.bU.cell (p:=bS qb qo) hlt).trans hc,Nat.lt_of_lt_of_le hlt h.bU.size,hn⟩
theorem NP {T B n c:Nat} {w:World} {S:Nat→Prop} {A:Option Addr} {xs:List ByteArray} (h:cV dw T B w S (bQ A n c) xs):Sq dw w Any A xs:=(show cV dw T B w Any (bQ A n c) xs from h).sq fun _ _ _=>trivial
def u_ (xs:List ByteArray) (w:World) (e:Ending) (w':World):Prop:=∃ A c,e= .returned (bQ A xs c)∧Sq dw w' Any A xs∧Below w w w'
theorem Lb (a:dU) (s:bY) (w:World) (hI:cB w Any a s) (hl:(uses s).length≤100):Calls prog 37 #[.agg (cn a s).toArray] w (u_ (bZ s) w):=by
 generalize hP:u_ (bZ s) w=P;have HP:=aa (show ∀ e w',u_ (bZ s) w e w'→P e w' from fun e w' h=>hP▸h);clear hP;obtain⟨A1,c1,A2,c2,A3,c3,A4,c4,A5,c5,A6,c6,A7,c7,A8,c8⟩:=a;have HI:=aa hI;have HL:=aa hl;have iz:=aa (show(bZ s).length=(gF s).length by have:=congrArg List.length (oq s);simpa using this.symm);have HLI:=aa (show(gF s).length≤100 by(have e:(gF s).length=(uses s).length:=by {simp[gF,uses,ei,eE];omega});omega);clear hI hl;simp only[cn];go_enter func37,ntmps37;go_upto_region 1 with fail;have hb1:Below w w (w.alloc (.cells (cz s A1 A2 A3 A4 A5 A6 A7 A8 c1 c2 c3 c4 c5 c6 c7 c8) 31)):=cJ _;have ER:=aa (HI.o.bU hb1);have I7:=aa (F7 ⟨A1,c1,A2,c2,A3,c3,A4,c4,A5,c5,A6,c6,A7,c7,A8,c8⟩ s w (w.alloc (.cells (cz s A1 A2 A3 A4 A5 A6 A7 A8 c1 c2 c3 c4 c5 c6 c7 c8) 31)) (heap_alloc_new w _) ER.o HL.o);have HB:=aa hb1;generalize w.alloc (.cells (cz s A1 A2 A3 A4 A5 A6 A7 A8 c1 c2 c3 c4 c5 c6 c7 c8) 31)=w1 at HB ER I7 ⊢;clear hb1 HI HL;go_wp2_with fail;refine I7.o.mono ?_;rintro e w2 ⟨Aa,ca,qs,rfl,hn⟩;have HN:=aa hn;have eT:=aa (HB.o.trans (hn.bU.mono HB.o.size));clear hn I7 HB;obtain⟨n,hn⟩:∃ n,n=(gF s).length:=⟨_,rfl⟩;rw[← hn]at HN iz HLI ⊢;have YD:=aa hn;clear hn;have hnb:=HLI.o;go_wp2_with fail;have HS:=aa (show cV dw 9 w2.heap.size w2 (fun _=>False) cG ((bZ s).take 0)from cV.pW);have HW:=aa (Below.refl w2 w2);go_loopw [3,5,8] (fun v _ s8 wr=>∃ k:Nat,k≤n∧s8=bR (k:Int)∧Hid (cV dw 9 w2.heap.size wr (fun _=>False) v ((bZ s).take k))∧Hid (Below w2 w2 wr)) (fun _ _ s8 _=>n - (intOf s8).toNat);(case atStart=>exact⟨0,Nat.zero_le _,rfl,HS,HW⟩);clear HS HW;obtain⟨k,hk,rfl,HS,HW⟩:=hrel;by_cases hlt:k<n;(case pos=>obtain⟨b,o,qb,qo,nm,hA,r1,hb1,r2,hb2,hnm⟩:=list_at (k:=k) ER.o HN.o (by have:=YD.o;omega);subst hA;have ew:=aa (show(bZ s).take (k+1)=(bZ s).take k++[nm] by rw[List.take_add_one,hnm];rfl);have x1:bW wr b (o+k) (.pointer (bS qb qo)):=(HW.o.cell (p:=bS b (o+k)) hb1).trans r1;have x2:bW wr qb qo (bV nm):=(HW.o.cell (p:=bS qb qo) hb2).trans r2;have uU:=aa (show((bZ s).take k).length=k by rw[List.length_take,iz.o];omega);generalize (bZ s).take k=xs at HS ew uU;clear r1 r2 hnm hb1 hb2;go_wp2_with (at_builtin;refine cC (R:=dw) (S:=fun _=>False) (xs:=xs) (ys:=[nm]) (T:=9) (t:=63) (B:=w2) rfl (.tmp 12) (.tmp 16) 63 rfl rfl nh (HS.o.bU (cJ _)) rfl _ 1 1 rfl rfl ?hN ?hl ?hB rfl (n:=k+1) ?hn ?_);(case hN=>exact rH.iV (R:=dw) (cs:=[_]) rfl _ rfl);(case hl=>rw[uU.o];omega);(case hB=>have:=HW.o.size;simp;omega);(case hn=>rw[uU.o]);intro A9 c9 w9 jw HG;have H_:=aa (show cV dw 9 w2.heap.size w9 (fun _=>False) (bQ A9 (k+1) c9) ((bZ s).take (k+1)) by rw[ew.o];exact HG.o.own);have HW9:=aa (show Below w2 w2 w9 from(HW.o.alloc HW.o.size _).trans (HG.o.bU (HS.o.bU (cJ _)) (by have:=HW.o.size;simp;omega)));clear HG HS HW x1 x2;go_wp2_with fail;go_roundw;(case rel=>exact⟨k+1,by omega,rfl,H_,HW9⟩);(case measure=>simp[intOf];omega));(have hkn:k=(bZ s).length:=by have:=iz.o;omega);rw[hkn,List.take_length]at HS;obtain⟨A9,c9,hv,_⟩:=HS.o.slice;subst hv;have HWW:=aa (eT.o.trans (HW.o.mono eT.o.size));go_wp2_with fail;exact HP.o (.returned (bQ A9 (bZ s).length c9)) _ ⟨A9,c9,rfl,NP HS.o,HWW.o⟩
theorem Dt {l:List dV} (h:∀ y∈l,y.inp.length≤100∧y.o.length≤100):(l.flatMap fun y=>y.inp++y.o).length≤l.length*200:=by
 induction l with
 |nil=>simp
 |cons a l ih=>
  have h1:=h a aj;have h2:=ih fun y hy=>h y (List.mem_cons_of_mem _ hy);rw[List.flatMap_cons,List.length_append,List.length_append,List.length_cons,Nat.add_mul];omega
theorem Q0 {w:World} {S:Nat→Prop} {A:Option Addr} {xs:List ByteArray} (h:Sq dw w Any A xs):rH dw w S A xs:=by
 obtain⟨css,h1,h2,h3⟩:=h;exact⟨css,h1,h2.mono fun _ _ _=>trivial,fun j cs x hc hx=>h3 j cs x hc hx⟩
theorem Ao (x:cw) (A:Option Addr) (c:Nat) (w:World) (hs:Sq gT w Any A x.steps) (hl:x.steps.length≤100000) (hq:∀ y∈x.steps,y.inp.length≤100∧y.o.length≤100):Calls prog 41 #[.agg #[bV x.kind,bQ A x.steps c]] w (u_ (gw x) w):=by
 generalize hP:u_ (gw x) w=P;have HP:=aa (show ∀ e w',u_ (gw x) w e w'→P e w' from fun e w' h=>hP▸h);clear hP;have HS:=aa hs;have HQ:=aa hq;obtain⟨n,hn⟩:∃ n,n=x.steps.length:=⟨_,rfl⟩;rw[← hn]at hl ⊢;have HN:=aa hn;clear hs hq hn;go_enter func41,ntmps41;go_upto_region 2 with fail;have hb1:Below w w (w.alloc (.cells #[bV x.kind,bQ A n c] 62)):=cJ _;have x1:(w.alloc (.cells #[bV x.kind,bQ A n c] 62)).cell? (bS w 1)=some (bQ A n c):=cH.cell (heap_alloc_new w _) 1;generalize w.alloc (.cells #[bV x.kind,bQ A n c] 62)=w1 at hb1 x1 ⊢;have HW:=aa hb1;clear hb1;go_wp2_with fail;clear x1;have HO:=aa (show cV dw 9 w.heap.size w1 (fun _=>False) cG ((x.steps.take 0).flatMap fun y=>y.inp++y.o)from cV.pW);go_loopw [3,5,9] (fun v _ s8 wr=>∃ k:Nat,k≤n∧s8=bR (k:Int)∧Hid (cV dw 9 w.heap.size wr (fun _=>False) v ((x.steps.take k).flatMap fun y=>y.inp++y.o))∧Hid (Below w w wr)) (fun _ _ s8 _=>n - (intOf s8).toNat);(case atStart=>exact⟨0,Nat.zero_le _,rfl,HO,HW⟩);clear HO HW;obtain⟨k,hk,rfl,HO,HW⟩:=hrel;by_cases hlt:k<n;case pos=>
  (have uQ:k<x.steps.length:=by have:=HN.o;omega);obtain⟨b,o,cs,hA,_,hb,⟨B1,d1,B2,d2,B3,d3,hcs,s1,s2,s3⟩,dn⟩:=HS.o.get uQ;subst hA;have ew:=aa (rW (fun y:dV=>y.inp++y.o) uQ);have hyq:=HQ.o _ (List.getElem_mem uQ);have hpl:=Dt (l:=x.steps.take k) fun y hy=>HQ.o y (List.mem_of_mem_take hy);rw[List.length_take]at hpl;generalize hy:x.steps[k]=y at hcs s1 s2 s3 ew hyq;subst hcs;generalize (x.steps.take k).flatMap (fun y=>y.inp++y.o)=xs at HO ew hpl;have Qz:=aa (show xs.length≤k*200 by have:=Nat.min_le_left k x.steps.length;omega);have y0:bW wr b (o+k*6) (bR y.kind):=(HW.o.cell (p:=bS b (o+k*6)) hb).trans (dn 0 _ rfl);have y1:bW wr b (o+k*6+1) (bQ B1 y.inp d1):=(HW.o.cell (p:=bS b (o+k*6+1)) hb).trans (dn 1 _ rfl);have y2:bW wr b (o+k*6+2) (bQ B2 y.o d2):=(HW.o.cell (p:=bS b (o+k*6+2)) hb).trans (dn 2 _ rfl);have y3:bW wr b (o+k*6+3) (bV y.name):=(HW.o.cell (p:=bS b (o+k*6+3)) hb).trans (dn 3 _ rfl);have y4:bW wr b (o+k*6+4) (bQ B3 y.cells d3):=(HW.o.cell (p:=bS b (o+k*6+4)) hb).trans (dn 4 _ rfl);have y5:bW wr b (o+k*6+5) (bR y.amount):=(HW.o.cell (p:=bS b (o+k*6+5)) hb).trans (dn 5 _ rfl);clear dn hpl;go_upto_region 5 with fail;have fH:Below wr wr (wr.alloc (.cells #[bR y.kind,bQ B1 y.inp d1,bQ B2 y.o d2,bV y.name,bQ B3 y.cells d3,bR y.amount] 65)):=cJ _;have v_:=aa (show cH (wr.alloc (.cells #[bR y.kind,bQ B1 y.inp d1,bQ B2 y.o d2,bV y.name,bQ B3 y.cells d3,bR y.amount] 65)) wr 65 [bR y.kind,bQ B1 y.inp d1,bQ B2 y.o d2,bV y.name,bQ B3 y.cells d3,bR y.amount]from heap_alloc_new wr _);have G0:=aa (show ∀ g,u3.ownBlock=some g→g<wr.heap.size from fun g hg=>(HO.o.lt g hg).2);have HW5:=aa (HW.o.trans (fH.mono HW.o.size));have HO5:=aa (HO.o.bU fH);have sY:=aa ((s1.mono (S':=fun b=>b<w.heap.size) fun b hb _=>hb).bU HW5.o);have m_:=aa ((s2.mono (S':=fun b=>b<w.heap.size) fun b hb _=>hb).bU HW5.o);generalize wr.alloc (.cells #[bR y.kind,bQ B1 y.inp d1,bQ B2 y.o d2,bV y.name,bQ B3 y.cells d3,bR y.amount] 65)=w5 at v_ HW5 HO5 sY m_ ⊢;have hps:w.heap.size≤wr:=HW.o.size;generalize wr.heap.size=ps at v_ hps G0 ⊢;clear fH s1 s2 s3 HO HW hy y0 y1 y2 y3 y4 y5;have q1:=v_.o.cell 1;have q2:=v_.o.cell 2;have hlk:=hyq.1;have hlo:=hyq.2;clear hyq;have hk6:k*200≤20000000:=af;generalize hni:y.inp.length=ni at q1 hlk;generalize hno:y.o.length=no at q2 hlo;have HNI:=aa hni;have Mc:=aa hno;clear hni hno;have HD5:=aa (HO5.o.bU (Below.refl _ w5).drew);have HD1:=aa (sY.o.bU (Below.refl _ w5).drew);have ZY:=aa (m_.o.bU (Below.refl _ w5).drew);have HDW:=aa (HW5.o.drew);have YX:=aa (v_.o.drew);have hzd:w5.drew.heap.size=w5.heap.size:=rfl;have AX:=aa (show ps<w5.drew.heap.size from v_.o.lt);clear HO5 sY m_ HW5 v_ hzd;refine dz (S:=fun d w'=>if d=2 then w'.cell? (bS ps 1)=some (bQ B1 ni d1)else if d=5 then w'.cell? (bS ps 2)=some (bQ B2 no d2)else True) [0,1,4,2,5,7] [(0,false),(1,false),(4,false),(2,false),(5,false),(3,true),(6,true),(7,false)] ai ai au rfl ai (⟨trivial,trivial,trivial,q1,q2,trivial,trivial⟩) ?_;(iterate 5 refine dZ ?_);refine eY [4,5,7] fun K hK=>?_;refine eR (R:=dw) (S:=fun _=>False) (xs:=xs) (ys:=y.inp) (T:=9) (t:=63) (B:=w) rfl (.tmp 13) (.tmp 15) 63 rfl rfl nh HD5.o rfl _ ni d1 rfl HNI.o (Q0 (HD1.o.mono fun _ _ _=>trivial)) ?hl ?hB (zs:=xs++y.inp) rfl (n:=xs.length+ni) rfl ?_;(case hl=>have:=Qz.o;omega);(case hB=>exact HDW.o.size);intro A9 c9 w6 jw HG;have q5:bW w6 ps 2 (bQ B2 no d2):=(vC HG.o.turn _ AX.o (fun e=>by have:=G0.o ps e.symm;omega)).trans q2;have m_:=aa (ZY.o.keep (cA.cW HG.o.turn fun b hb e=>by have:=(HD5.o.lt b e.symm).1;omega));have HW6:=aa (HDW.o.trans (HG.o.bU HD5.o HDW.o.size));have SG:=aa HG.o.own;clear HG ZY HD1 HD5 HDW;refine hK.o _ _ (⟨trivial,q5,trivial,trivial⟩) ?_;clear hK K;refine eY [7] fun K hK=>?_;refine eR (R:=dw) (S:=fun _=>False) (xs:=xs++y.inp) (ys:=y.o) (T:=9) (t:=63) (B:=w) rfl (.tmp 16) (.tmp 18) 63 rfl rfl nh SG.o rfl _ no d2 rfl Mc.o (Q0 (m_.o.mono fun _ _ _=>trivial)) ?hl ?hB (zs:=xs++y.inp++y.o) rfl (n:=xs.length+ni+no) (by rw[List.length_append,HNI.o]) ?_;(case hl=>rw[List.length_append,HNI.o];have:=Qz.o;omega);(case hB=>exact HW6.o.size);intro A8 c8 w7 hc8 HG;have Wh:=aa (show cV dw 9 w.heap.size w7 (fun _=>False) (bQ A8 (xs.length+ni+no) c8) ((x.steps.take (k+1)).flatMap fun y=>y.inp++y.o) by rw[ew.o, ← List.append_assoc];exact HG.o.own);have HW7:=aa (HW6.o.trans (HG.o.bU SG.o HW6.o.size));clear HG SG HW6 m_;refine hK.o _ _ (⟨trivial,trivial⟩) ?_;clear hK K;refine dZ ?_;refine gb ?_;(try go_frame);clear q1 q2 G0 AX YX;go_wp2_with fail;go_roundw;(case rel=>exact⟨k+1,by omega,rfl,Wh,HW7⟩);(case measure=>simp[intOf];omega)
 (have hkn:k=x.steps.length:=by have:=HN.o;omega);rw[hkn,List.take_length]at HO;obtain⟨A9,c9,hv,_⟩:=HO.o.slice;subst hv;go_wp2_with fail;exact HP.o (.returned (bQ A9 (gw x).length c9)) _ ⟨A9,c9,rfl,NP HO.o,HW.o⟩
end Go.Proofs.YtkfofnjfihfgkaaGreatDoor
