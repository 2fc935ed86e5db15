/- Parts of the proof, packed (FrP to Frac5); each theorem bears its own conditions. -/
import Derived.Test.YtkfofnjfihfgkaaGreatDoorPz08
set_option linter.unusedVariables false
set_option linter.unusedSimpArgs false
set_option maxRecDepth 100000
set_option maxHeartbeats 8000000
open Go.Proofs.Tryz
open Go.Lib renaming hid → aa
theorem bn {p:Prop} (h:p:=by intro x hx;show x.1<7;simp at hx;rcases hx with rfl|rfl|rfl|rfl|rfl<;>simp):p:=h
theorem aH {p:Prop} (h:p:=by simp[World.setCell];omega):p:=h
namespace Go.Proofs.YtkfofnjfihfgkaaGreatDoor
open Go Go.RowKit Go.Proofs Sh Kb
section
theorem yI {w:World} {B B' e size n:Nat} {v:Value} {us:List Value} (h:w.ownsRow B' e size v n us) (hB:B≤B'):w.ownsRow B e size v n us:=by
 refine⟨h.1,?_⟩;rcases h.2 with q|⟨g,cap,cur,q,hb,rest⟩
 (·exact .inl q);exact .inr ⟨g,cap,cur,q,Nat.le_trans hB hb,rest⟩
abbrev Tag:=Nat→Nat×Nat
def UT (tag:Tag) (B i b:Nat):Prop:=B≤b∧((tag b).1=i∨(tag b).1=10+i)
def EM {α:Type} (Ro Rn:Rel α) (i B:Nat) (tag:Tag) (xs:List α) (k:Nat) (w:World) (j:Nat) (cs:List Value):Prop:=
 ∀ x,xs[j]? =some x→if j<k then Rn.is w (fun b=>B≤b∧tag b=(i,j)) cs x else Ro.is w (fun b=>b<B) cs x
def iN {α:Type} (Ro Rn:Rel α) (T i B:Nat) (tag:Tag) (xs:List α) (k:Nat) (w:World) (v:Value):Prop:=
 mb Rn.k T B w v xs.length (EM Ro Rn i B tag xs k w)∧∀ g,v.ownBlock=some g→tag g=(10+i,0)
section
variable {α:Type} {Ro Rn:Rel α} {T i B k:Nat} {tag tag':Tag} {xs:List α} {w w':World} {v:Value}
theorem iN.keep (h:iN Ro Rn T i B tag xs k w v) (hk:cA (fun b=>b<B∨UT tag B i b) w w'):iN Ro Rn T i B tag xs k w' v:=by
 refine⟨h.1.move (fun g hg=>hk.2 g (h.1.lt g hg).2 (.inr ⟨(h.1.lt g hg).1,.inr (by rw[h.2 g hg])⟩)) fun j cs _ hE x hx=>?_,h.2⟩;have:=hE x hx;split
 ·next hj=>
  rw[if_pos hj]at this;exact Rn.keep this ⟨hk.1,fun b hb q=>hk.2 b hb (.inr ⟨q.1,.inl (by rw[q.2])⟩)⟩
 next hj=>
 rw[if_neg hj]at this;exact Ro.keep this ⟨hk.1,fun b hb q=>hk.2 b hb (.inl q)⟩
theorem iN.bU (h:iN Ro Rn T i B tag xs k w v) (hb:Below w w w'):iN Ro Rn T i B tag xs k w' v:=h.keep (cA.cj hb)
theorem iN.gD (h:iN Ro Rn T i B tag xs k w v) (ht:∀ b,b<w.heap.size→tag' b=tag b):iN Ro Rn T i B tag' xs k w v:=by
 refine⟨h.1.move (fun g hg=>rfl) fun j cs _ hE x hx=>?_,fun g hg=>by rw[ht g (h.1.lt g hg).2];exact h.2 g hg⟩;have:=hE x hx;split
 ·next hj=>
  rw[if_pos hj]at this;exact Rn.mono this fun b hb q=>⟨q.1,by rw[ht b hb];exact q.2⟩
 next hj=>
 rw[if_neg hj]at this;exact this
theorem iN.slice (h:iN Ro Rn T i B tag xs k w v):∃ A c,v=bQ A xs c∧xs.length≤c∧c≤maxLen:=h.1.slice
theorem iN.start {S:Nat→Prop} {B':Nat} (hk:Ro.k=Rn.k) (h:cV Ro T B' w S v xs) (hB:B≤B') (hS:∀ b,S b→b<B) (ht:∀ g,v.ownBlock=some g→tag g=(10+i,0)):iN Ro Rn T i B tag xs 0 w v:=by
 obtain⟨css,h2,h3,h4,h5⟩:=h;rw[hk]at h3 h4;exact⟨⟨css,h2,yI h3 hB,h4,fun j cs hc x hx=>by rw[if_neg (Nat.not_lt_zero j)];exact Ro.mono (h5 j cs x hc hx) fun b _ q=>hS b q.1⟩,ht⟩
theorem iN.done (h:iN Ro Rn T i B tag xs k w v) (hk:xs.length≤k):dy Rn T B w (UT tag B i) v xs:=by
 refine⟨fun b=>(tag b).2,fun g hg=>⟨(h.1.lt g hg).1,.inr (by rw[h.2 g hg])⟩,h.1.move (fun g hg=>rfl) fun j cs hj hE x hx=>?_⟩;have:=hE x hx;rw[if_pos af]at this;refine Rn.mono this fun b hb q=>⟨⟨q.1,.inl (by rw[q.2])⟩,fun e=>?_,by show(tag b).2=j;rw[q.2]⟩;have h9:=h.2 b e.symm;rw[q.2]at h9;injection h9 with h9 _;omega
theorem dy.start {S:Nat→Prop} {B':Nat} {k:Nat} {f:α→List Value} {hk:∀ x,(f x).length=k} {h1:∀ x,∀ v∈f x,v.oneCell'=true} (h:cV (jX k f hk h1) T B' w S v xs) (hB:B≤B') (ht:∀ g,v.ownBlock=some g→tag g=(10+i,0)):dy (jX k f hk h1) T B w (UT tag B i) v xs:=by
 obtain⟨css,h2,h3,h4,h5⟩:=h;exact⟨fun _=>0,fun g hg=>⟨Nat.le_trans hB (nV h3 g hg).1,.inr (by rw[ht g hg])⟩,css,h2,yI h3 hB,h4,fun j cs hc x hx=>h5 j cs x hc hx⟩
theorem dy.gD {R:Rel α} (h:dy R T B w (UT tag B i) v xs) (ht:∀ b,b<w.heap.size→tag' b=tag b):dy R T B w (UT tag' B i) v xs:=h.mono fun b hb q=>⟨q.1,by rw[ht b hb];exact q.2⟩
end
structure qw (p:Nat) (w:World) (a:dU) (s:bY) (tag:Tag) (k3 k4 k5 k8:Nat) (wr:World):Prop where
 blk:cH wr p 31 (cn a s)
 res:cH wr (p+1) 31 (gh)
 i1:dy gN 143 (p+2) wr (UT tag (p+2) 1) (bQ a.A1 s.imports a.c1) s.imports
 i2:dy jg 125 (p+2) wr (UT tag (p+2) 2) (bQ a.A2 s.inputs a.c2) s.inputs
 i3:iN fO (vw 153 (p+2)) 106 3 (p+2) tag s.tables k3 wr (bQ a.A3 s.tables a.c3)
 i4:iN jb (uT 78 (p+2)) 76 4 (p+2) tag s.funcs k4 wr (bQ a.A4 s.funcs a.c4)
 i5:iN dS dS 56 5 (p+2) tag s.cells k5 wr (bQ a.A5 s.cells a.c5)
 i6:dy lH 127 (p+2) wr (UT tag (p+2) 6) (bQ a.A6 s.b9 a.c6) s.b9
 i7:dy jh 136 (p+2) wr (UT tag (p+2) 7) (bQ a.A7 s.stores a.c7) s.stores
 i8:iN dL (ko 9 65 (p+2)) 62 8 (p+2) tag s.bX k8 wr (bQ a.A8 s.bX a.c8)
 bU:Below p w wr
section
variable {p:Nat} {w wr w1:World} {a:dU} {s:bY} {tag tag':Tag} {k3 k4 k5 k8:Nat}
theorem qw.gX (h:qw p w a s tag k3 k4 k5 k8 wr) (hb:Below wr wr w1):qw p w a s tag k3 k4 k5 k8 w1:=
 ⟨h.blk.bU hb h.blk.lt,h.res.bU hb h.res.lt,h.i1.keep (cA.cj hb),h.i2.keep (cA.cj hb),h.i3.bU hb,h.i4.bU hb,h.i5.bU hb,h.i6.keep (cA.cj hb),h.i7.keep (cA.cj hb),h.i8.bU hb,h.bU.trans (hb.mono (Nat.le_of_lt h.blk.lt))⟩
theorem qw.gD (h:qw p w a s tag k3 k4 k5 k8 wr) (ht:∀ b,b<wr.heap.size→tag' b=tag b):qw p w a s tag' k3 k4 k5 k8 wr:=
 ⟨h.blk,h.res,h.i1.gD ht,h.i2.gD ht,h.i3.gD ht,h.i4.gD ht,h.i5.gD ht,h.i6.gD ht,h.i7.gD ht,h.i8.gD ht,h.bU⟩
def RY (m1 m2 m3 m4 m5 m6 m7:Nat):Tag:=fun b=>if b<m1 then(11,0)else if b<m2 then(12,0)else if b<m3 then(16,0)else if b<m4 then(17,0)else if b<m5 then(13,0)else if b<m6 then(14,0)else if b<m7 then(15,0)else(18,0)
theorem qw.begin {S:Nat→Nat→Prop} {m0 m1 m2 m3 m4 m5 m6 m7:Nat} (hp:p+2≤m0) (q1:m0≤m1) (q2:m1≤m2) (q3:m2≤m3) (q4:m3≤m4) (q5:m4≤m5) (q6:m5≤m6) (q7:m6≤m7) (hS:∀ i b,S i b→b<p) (blk:cH wr p 31 (cn a s)) (res:cH wr (p+1) 31 (gh)) (hb:Below p w wr) (o1:cV gN 143 m0 wr (S 1) (bQ a.A1 s.imports a.c1) s.imports) (l1:∀ g,(bQ a.A1 s.imports a.c1).ownBlock=some g→g<m1) (o2:cV jg 125 m1 wr (S 2) (bQ a.A2 s.inputs a.c2) s.inputs) (l2:∀ g,(bQ a.A2 s.inputs a.c2).ownBlock=some g→g<m2) (o6:cV lH 127 m2 wr (S 6) (bQ a.A6 s.b9 a.c6) s.b9) (l6:∀ g,(bQ a.A6 s.b9 a.c6).ownBlock=some g→g<m3) (o7:cV jh 136 m3 wr (S 7) (bQ a.A7 s.stores a.c7) s.stores) (l7:∀ g,(bQ a.A7 s.stores a.c7).ownBlock=some g→g<m4) (o3:cV fO 106 m4 wr (S 3) (bQ a.A3 s.tables a.c3) s.tables) (l3:∀ g,(bQ a.A3 s.tables a.c3).ownBlock=some g→g<m5) (o4:cV jb 76 m5 wr (S 4) (bQ a.A4 s.funcs a.c4) s.funcs) (l4:∀ g,(bQ a.A4 s.funcs a.c4).ownBlock=some g→g<m6) (o5:cV dS 56 m6 wr (S 5) (bQ a.A5 s.cells a.c5) s.cells) (l5:∀ g,(bQ a.A5 s.cells a.c5).ownBlock=some g→g<m7) (o8:cV dL 62 m7 wr (S 8) (bQ a.A8 s.bX a.c8) s.bX):qw p w a s (RY m1 m2 m3 m4 m5 m6 m7) 0 0 0 0 wr:=by
 (have hS2:∀ i b,S i b→b<p+2:=fun i b h=>by have:=hS i b h;omega);refine⟨blk,res,dy.start o1 hp fun g hg=>?_,dy.start o2 af fun g hg=>?_,iN.start rfl o3 af (hS2 3) fun g hg=>?_,iN.start rfl o4 af (hS2 4) fun g hg=>?_,iN.start rfl o5 af (hS2 5) fun g hg=>?_,dy.start o6 af fun g hg=>?_,dy.start o7 af fun g hg=>?_,iN.start rfl o8 af (hS2 8) fun g hg=>?_,hb⟩;(all_goals unfold RY)
 (·have:=l1 g hg;rw[if_pos this])
 (·have h1:=(o2.lt g hg).1;have h2:=l2 g hg;rw[if_neg af,if_pos h2])
 (·have h1:=(o3.lt g hg).1;have h2:=l3 g hg;rw[if_neg af,if_neg af,if_neg af,if_neg af,if_pos h2])
 (·have h1:=(o4.lt g hg).1;have h2:=l4 g hg;rw[if_neg af,if_neg af,if_neg af,if_neg af,if_neg af,if_pos h2])
 (·have h1:=(o5.lt g hg).1;have h2:=l5 g hg;rw[if_neg af,if_neg af,if_neg af,if_neg af,if_neg af,if_neg af,if_pos h2])
 (·have h1:=(o6.lt g hg).1;have h2:=l6 g hg;rw[if_neg af,if_neg af,if_pos h2])
 (·have h1:=(o7.lt g hg).1;have h2:=l7 g hg;rw[if_neg af,if_neg af,if_neg af,if_pos h2]);have h1:=(o8.lt g hg).1;rw[if_neg af,if_neg af,if_neg af,if_neg af,if_neg af,if_neg af,if_neg af]
variable {g:Nat}
theorem kJ {B i j b:Nat} {tag:Tag} (hij:i≠j) (hi:i<10) (hj:j<10) (ht:tag g=(10+j,0)) (h:b<B∨UT tag B i b) (hB:B≤g):some b≠some g:=fun e=>by
 injection e with e;subst e;rcases h with h|⟨_,h⟩
 (·omega);rw[ht]at h;simp only at h;omega
theorem gO {B i j b:Nat} {tag:Tag} (hij:i≠j) (hi:i<10) (hj:j<10) (ht:tag g=(10+j,0)) (h:UT tag B i b) (hB:B≤g):some b≠some g:=kJ hij hi hj ht (.inr h) hB
theorem qw.with3 {k3':Nat} {w2:World} (h:qw p w a s tag k3 k4 k5 k8 w1) (hg:w1.grownBy w2 (some g)) (ht:tag g=(13,0)) (hB:p+2≤g) (hr:iN fO (vw 153 (p+2)) 106 3 (p+2) tag s.tables k3' w2 (bQ a.A3 s.tables a.c3)):qw p w a s tag k3' k4 k5 k8 w2:=
 ⟨(hg.block p h.blk.lt (fun e=>by injection e with e;omega)).trans h.blk,(hg.block (p+1) h.res.lt (fun e=>by injection e with e;omega)).trans h.res,h.i1.keep (cA.cW hg fun b q=>gO (i:=1) (j:=3) ag ag ag ht q hB),h.i2.keep (cA.cW hg fun b q=>gO (i:=2) (j:=3) ag ag ag ht q hB),hr,h.i4.keep (cA.cW hg fun b q=>kJ (i:=4) (j:=3) ag ag ag ht q hB),h.i5.keep (cA.cW hg fun b q=>kJ (i:=5) (j:=3) ag ag ag ht q hB),h.i6.keep (cA.cW hg fun b q=>gO (i:=6) (j:=3) ag ag ag ht q hB),h.i7.keep (cA.cW hg fun b q=>gO (i:=7) (j:=3) ag ag ag ht q hB),h.i8.keep (cA.cW hg fun b q=>kJ (i:=8) (j:=3) ag ag ag ht q hB),h.bU.grown hg (Nat.le_of_lt h.blk.lt) (fun g' e=>by injection e with e;omega)⟩
theorem qw.with4 {k4':Nat} {w2:World} (h:qw p w a s tag k3 k4 k5 k8 w1) (hg:w1.grownBy w2 (some g)) (ht:tag g=(14,0)) (hB:p+2≤g) (hr:iN jb (uT 78 (p+2)) 76 4 (p+2) tag s.funcs k4' w2 (bQ a.A4 s.funcs a.c4)):qw p w a s tag k3 k4' k5 k8 w2:=
 ⟨(hg.block p h.blk.lt (fun e=>by injection e with e;omega)).trans h.blk,(hg.block (p+1) h.res.lt (fun e=>by injection e with e;omega)).trans h.res,h.i1.keep (cA.cW hg fun b q=>gO (i:=1) (j:=4) ag ag ag ht q hB),h.i2.keep (cA.cW hg fun b q=>gO (i:=2) (j:=4) ag ag ag ht q hB),h.i3.keep (cA.cW hg fun b q=>kJ (i:=3) (j:=4) ag ag ag ht q hB),hr,h.i5.keep (cA.cW hg fun b q=>kJ (i:=5) (j:=4) ag ag ag ht q hB),h.i6.keep (cA.cW hg fun b q=>gO (i:=6) (j:=4) ag ag ag ht q hB),h.i7.keep (cA.cW hg fun b q=>gO (i:=7) (j:=4) ag ag ag ht q hB),h.i8.keep (cA.cW hg fun b q=>kJ (i:=8) (j:=4) ag ag ag ht q hB),h.bU.grown hg (Nat.le_of_lt h.blk.lt) (fun g' e=>by injection e with e;omega)⟩
theorem qw.with5 {k5':Nat} {w2:World} (h:qw p w a s tag k3 k4 k5 k8 w1) (hg:w1.grownBy w2 (some g)) (ht:tag g=(15,0)) (hB:p+2≤g) (hr:iN dS dS 56 5 (p+2) tag s.cells k5' w2 (bQ a.A5 s.cells a.c5)):qw p w a s tag k3 k4 k5' k8 w2:=
 ⟨(hg.block p h.blk.lt (fun e=>by injection e with e;omega)).trans h.blk,(hg.block (p+1) h.res.lt (fun e=>by injection e with e;omega)).trans h.res,h.i1.keep (cA.cW hg fun b q=>gO (i:=1) (j:=5) ag ag ag ht q hB),h.i2.keep (cA.cW hg fun b q=>gO (i:=2) (j:=5) ag ag ag ht q hB),h.i3.keep (cA.cW hg fun b q=>kJ (i:=3) (j:=5) ag ag ag ht q hB),h.i4.keep (cA.cW hg fun b q=>kJ (i:=4) (j:=5) ag ag ag ht q hB),hr,h.i6.keep (cA.cW hg fun b q=>gO (i:=6) (j:=5) ag ag ag ht q hB),h.i7.keep (cA.cW hg fun b q=>gO (i:=7) (j:=5) ag ag ag ht q hB),h.i8.keep (cA.cW hg fun b q=>kJ (i:=8) (j:=5) ag ag ag ht q hB),h.bU.grown hg (Nat.le_of_lt h.blk.lt) (fun g' e=>by injection e with e;omega)⟩
theorem qw.uV {k8':Nat} {w2:World} (h:qw p w a s tag k3 k4 k5 k8 w1) (hg:w1.grownBy w2 (some g)) (ht:tag g=(18,0)) (hB:p+2≤g) (hr:iN dL (ko 9 65 (p+2)) 62 8 (p+2) tag s.bX k8' w2 (bQ a.A8 s.bX a.c8)):qw p w a s tag k3 k4 k5 k8' w2:=
 ⟨(hg.block p h.blk.lt (fun e=>by injection e with e;omega)).trans h.blk,(hg.block (p+1) h.res.lt (fun e=>by injection e with e;omega)).trans h.res,h.i1.keep (cA.cW hg fun b q=>gO (i:=1) (j:=8) ag ag ag ht q hB),h.i2.keep (cA.cW hg fun b q=>gO (i:=2) (j:=8) ag ag ag ht q hB),h.i3.keep (cA.cW hg fun b q=>kJ (i:=3) (j:=8) ag ag ag ht q hB),h.i4.keep (cA.cW hg fun b q=>kJ (i:=4) (j:=8) ag ag ag ht q hB),h.i5.keep (cA.cW hg fun b q=>kJ (i:=5) (j:=8) ag ag ag ht q hB),h.i6.keep (cA.cW hg fun b q=>gO (i:=6) (j:=8) ag ag ag ht q hB),h.i7.keep (cA.cW hg fun b q=>gO (i:=7) (j:=8) ag ag ag ht q hB),hr,h.bU.grown hg (Nat.le_of_lt h.blk.lt) (fun g' e=>by injection e with e;omega)⟩
end
def iO (tag:Tag) (n:Nat) (x:Nat×Nat):Tag:=fun b=>if n≤b then x else tag b
theorem eK {tag:Tag} {n:Nat} {x:Nat×Nat}:∀ b,b<n→iO tag n x b=tag b:=fun b hb=>by unfold iO;rw[if_neg af]
theorem fV {tag:Tag} {n:Nat} {x:Nat×Nat} {b:Nat} (hb:n≤b):iO tag n x b=x:=by unfold iO;rw[if_pos hb]
theorem dy.fresh {α:Type} {k:Nat} {f:α→List Value} {hk:∀ x,(f x).length=k} {h1:∀ x,∀ v∈f x,v.oneCell'=true} {S U:Nat→Prop} {T B B':Nat} {w:World} {v:Value} {xs:List α} (h:cV (jX k f hk h1) T B' w S v xs) (hB:B≤B') (hU:∀ b,B'≤b→U b):dy (jX k f hk h1) T B w U v xs:=by
 obtain⟨css,h2,h3,h4,h5⟩:=h;exact⟨fun _=>0,fun g hg=>hU g (nV h3 g hg).1,css,h2,yI h3 hB,h4,fun j cs hc x hx=>h5 j cs x hc hx⟩
theorem iN.step {α:Type} {Ro Rn:Rel α} {T i B k:Nat} {tag:Tag} {xs:List α} {w:World} {g n c m:Nat} {u:Value} (h:iN Ro Rn T i B tag xs k w (bQ (bS g 0) n c)) (hn:n=xs.length) (hk:k<xs.length) (hm:m<Rn.k) (hkk:Ro.k=Rn.k) (hE:∀ cs,Ro.is w (fun b=>b<B) cs xs[k]→Rn.is w (fun b=>B≤b∧tag b=(i,k)) (cs.set m u) xs[k]) (hi:i<10):iN Ro Rn T i B tag xs (k+1) (w.setCell (bS g (k*Rn.k+m)) u) (bQ (bS g 0) n c):=by
 subst hn;have ht:=h.2 g rfl;have hgB:=(h.1.lt g rfl).1;have h1:=h.1.put (E':=EM Ro Rn i B tag xs (k+1) w) hk hm u (fun cs dn he x hx=>by
  have CD:xs[k]=x:=Option.some.inj ((List.getElem?_eq_getElem hk).symm.trans hx);subst CD;have h2:=he xs[k] hx;rw[if_neg (Nat.lt_irrefl k)]at h2;rw[if_pos af];exact hE cs h2) (fun j' cs hj hjn he x hx=>by
  have h2:=he x hx;by_cases q:j'<k
  (·rw[if_pos q]at h2;rw[if_pos af];exact h2);rw[if_neg q]at h2;rw[if_neg af];exact h2)
 refine⟨h1.move (fun _ _=>rfl) fun j cs _ he x hx=>?_,h.2⟩;have h2:=he x hx;have oZ:∀ b,b≠g→(w.setCell (bS g (k*Rn.k+m)) u).heap[b]? =w.heap[b]? :=fun b hb=>Below.heap_setCell w (bS g (k*Rn.k+m)) u b hb;split
 ·next q=>
  rw[if_pos q]at h2;exact Rn.keep h2 ⟨by simp[World.setCell],fun b _ hb=>oZ b (fun e=>by rw[e,ht]at hb;have:=hb.2;injection this;omega)⟩
 next q=>
 rw[if_neg q]at h2;exact Ro.keep h2 ⟨by simp[World.setCell],fun b _ hb=>oZ b af⟩
theorem qw.step3 {p:Nat} {w wr w1:World} {a:dU} {s:bY} {tag:Tag} {k k4 k5 k8 g c':Nat} {A':Option Addr} {S:Nat→Prop} (h:qw p w a s tag k k4 k5 k8 wr) (hk:k<s.tables.length) (hA:a.A3=bS g 0) (hb:Below wr wr w1) (hc:cV yw 153 wr.heap.size w1 S (bQ A' s.tables[k].rows.length c') s.tables[k].rows):qw p w a s (iO tag wr (3,k)) (k+1) k4 k5 k8 (w1.setCell (bS g (k*3+2)) (bQ A' s.tables[k].rows.length c')):=by
 have hp:=h.res.lt;have h1:=(h.gD (tag':=iO tag wr (3,k)) eK).gX hb;have hr:=h1.i3;rw[hA]at hr;have ht:=hr.2 g rfl;have hB:=(hr.1.lt g rfl).1;have hst:=iN.step (m:=2) (u:=bQ A' s.tables[k].rows.length c') hr rfl hk (by show 2<3;decide) rfl (fun cs hcs=>by
  obtain⟨A,c,e,_⟩:=hcs;rw[e];exact⟨A',c',rfl,dy.fresh hc af fun b hb=>⟨by omega,fV hb⟩⟩) ag
 exact h1.with3 (g:=g) ⟨rfl,rfl,rfl,by simp[World.setCell],fun b _ hb=>Below.heap_setCell w1 (bS g (k*3+2)) _ b (fun e=>hb (by have e2:b=g:=e;rw[e2]))⟩ ht hB (by rw[hA];exact hst)
def gY (g o:Nat) (w:World) (ws:List (Nat×Value)):World:=ws.foldl (fun w x=>w.setCell (bS g (o+x.1)) x.2) w
def sets (cs:List Value) (ws:List (Nat×Value)):List Value:=ws.foldl (fun cs x=>cs.set x.1 x.2) cs
theorem fZ {g o:Nat}:∀ (ws:List (Nat×Value)) (w:World),w.heap.size=(gY g o w ws).heap.size∧(gY g o w ws).os=w.os∧(gY g o w ws).tape=w.tape∧(gY g o w ws).output=w.output∧∀ b,b≠g→(gY g o w ws).heap[b]? =w.heap[b]?
 |[],w=>⟨rfl,rfl,rfl,rfl,fun _ _=>rfl⟩
 |x :: ws,w=>by
  obtain⟨h1,h2,h3,h4,h5⟩:=fZ ws (w.setCell (bS g (o+x.1)) x.2) (g:=g) (o:=o);exact⟨by rw[show(gY g o w (x :: ws))=gY g o (w.setCell (bS g (o+x.1)) x.2) ws from rfl, ← h1];simp[World.setCell],h2,h3,h4,fun b hb=>(h5 b hb).trans (Below.heap_setCell w (bS g (o+x.1)) x.2 b hb)⟩
theorem mb.gY {K T B n g c k:Nat}:∀ (ws:List (Nat×Value)) {w:World} {E:Nat→List Value→Prop},mb K T B w (bQ (bS g 0) n c) n E→k<n→(∀ x∈ws,x.1<K)→
 mb K T B (gY g (k*K) w ws) (bQ (bS g 0) n c) n (fun j cs=>if j=k then ∃ cs0,cs0.length=K∧E k cs0∧cs=sets cs0 ws else E j cs)
 |[],w,E,h,hk,_=>by
  obtain⟨css,h1,h2,h3,h4⟩:=h;refine⟨css,h1,h2,h3,fun j cs hj=>?_⟩;dsimp only;split
  (·(next e=>subst e;exact⟨cs,h3 cs (List.mem_of_getElem? hj),h4 j cs hj,rfl⟩));exact h4 j cs hj
 |x :: ws,w,E,h,hk,hm=>by
  have h1:=h.put (E':=fun j cs=>if j=k then ∃ cs0,cs0.length=K∧E k cs0∧cs=cs0.set x.1 x.2 else E j cs) hk (hm x aj) x.2 (fun cs hl he=>by rw[if_pos rfl];exact⟨cs,hl,he,rfl⟩) (fun j' cs hj _ he=>by rw[if_neg hj];exact he);have h2:=mb.gY ws h1 hk fun y hy=>hm y (by simp[hy]);refine h2.move (fun _ _=>rfl) fun j cs _ he=>?_;by_cases q:j=k
  (·rw[if_pos q]at he ⊢;obtain⟨cs1,hl1,ZU,e1⟩:=he;rw[if_pos rfl]at ZU;obtain⟨cs0,hl0,he0,e0⟩:=ZU;exact⟨cs0,hl0,he0,by rw[e1,e0];rfl⟩);rw[if_neg q]at he ⊢;rw[if_neg q]at he;exact he
theorem iN.steps {α:Type} {Ro Rn:Rel α} {T i B k:Nat} {tag:Tag} {xs:List α} {w:World} {g n c:Nat} (ws:List (Nat×Value)) (h:iN Ro Rn T i B tag xs k w (bQ (bS g 0) n c)) (hn:n=xs.length) (hk:k<xs.length) (hm:∀ x∈ws,x.1<Rn.k) (hE:∀ cs,Ro.is w (fun b=>b<B) cs xs[k]→Rn.is w (fun b=>B≤b∧tag b=(i,k)) (sets cs ws) xs[k]):iN Ro Rn T i B tag xs (k+1) (gY g (k*Rn.k) w ws) (bQ (bS g 0) n c):=by
 subst hn;have ht:=h.2 g rfl;have hgB:=(h.1.lt g rfl).1;have h1:=h.1.gY ws hk hm;obtain⟨f1,_,_,_,f5⟩:=fZ (g:=g) (o:=k*Rn.k) ws w;refine⟨h1.move (fun _ _=>rfl) fun j cs _ he x hx=>?_,h.2⟩;by_cases q:j=k
 (·subst q;rw[if_pos rfl]at he;obtain⟨cs0,_,he0,rfl⟩:=he;have CD:xs[j]=x:=Option.some.inj ((List.getElem?_eq_getElem hk).symm.trans hx);subst CD;have h2:=he0 xs[j] hx;rw[if_neg (Nat.lt_irrefl j)]at h2;rw[if_pos af];exact Rn.keep (hE cs0 h2) ⟨by omega,fun b _ hb=>f5 b (fun e=>by rw[e,ht]at hb;have:=hb.2;injection this;omega)⟩);rw[if_neg q]at he;have h2:=he x hx;by_cases q2:j<k
 (·rw[if_pos q2]at h2;rw[if_pos af];exact Rn.keep h2 ⟨by omega,fun b _ hb=>f5 b (fun e=>by rw[e,ht]at hb;have:=hb.2;injection this;omega)⟩);rw[if_neg q2]at h2;rw[if_neg af];exact Ro.keep h2 ⟨by omega,fun b _ hb=>f5 b af⟩
theorem CE {g o:Nat} (ws:List (Nat×Value)) (w:World):w.grownBy (gY g o w ws) (some g):=by
 obtain⟨f1,f2,f3,f4,f5⟩:=fZ (g:=g) (o:=o) ws w;exact⟨f2,f3,f4,by omega,fun b _ hb=>f5 b (fun e=>hb (by rw[e]))⟩
section
variable {p:Nat} {w wr w1:World} {a:dU} {s:bY} {tag:Tag} {k k3 k4 k5 k8 g c':Nat} {A':Option Addr} {S:Nat→Prop}
theorem qw.step5 (h:qw p w a s tag k3 k4 k k8 wr) (hk:k<s.cells.length) (hA:a.A5=bS g 0) (hb:Below wr wr w1) {u0 u1 u2 u3 u4:Value} (he:cR w1 (fun b=>wr.heap.size≤b) [u0,u1,u2,u3,u4] s.cells[k].iY):qw p w a s (iO tag wr (5,k)) k3 k4 (k+1) k8 (gY g (k*7) w1 [(2,u0),(3,u1),(4,u2),(5,u3),(6,u4)]):=by
 have hp:=h.res.lt;have h1:=(h.gD (tag':=iO tag wr (5,k)) eK).gX hb;have hr:=h1.i5;rw[hA]at hr;have hst:=iN.steps [(2,u0),(3,u1),(4,u2),(5,u3),(6,u4)] hr rfl hk bn (fun cs hcs=>by
  obtain⟨es,e,hes⟩:=hcs;obtain⟨op,n,un,nm,A,c,ar,_,Eo,_⟩:=hes.parts;subst Eo;rw[e];exact⟨[u0,u1,u2,u3,u4],rfl,he.mono fun b _ hb=>⟨by omega,fV hb⟩⟩)
 exact h1.with5 (g:=g) (CE _ _) (hr.2 g rfl) (hr.1.lt g rfl).1 (by rw[hA];exact hst)
theorem qw.step4 {w2:World} (h:qw p w a s tag k3 k k5 k8 wr) (hk:k<s.funcs.length) (hA:a.A4=bS g 0) (hb:Below wr wr w1) (hc:cV jM 78 wr.heap.size w1 S (bQ A' s.funcs[k].params.length c') s.funcs[k].params) (hb2:Below w1 w1 w2) {u0 u1 u2 u3 u4:Value} (he:cR w2 (fun b=>w1.heap.size≤b) [u0,u1,u2,u3,u4] s.funcs[k].body):qw p w a s (iO tag wr (4,k)) k3 (k+1) k5 k8 (gY g (k*7) w2 [(1,bQ A' s.funcs[k].params.length c'),(2,u0),(3,u1),(4,u2),(5,u3),(6,u4)]):=by
 have hp:=h.res.lt;have hz:=hb.size;have h1:=((h.gD (tag':=iO tag wr (4,k)) eK).gX hb).gX hb2;have hr:=h1.i4;rw[hA]at hr;have hst:=iN.steps [(1,bQ A' s.funcs[k].params.length c'),(2,u0),(3,u1),(4,u2),(5,u3),(6,u4)] hr rfl hk (by intro x hx;show x.1<7;simp at hx;rcases hx with rfl|rfl|rfl|rfl|rfl|rfl<;>simp) (fun cs hcs=>by
  obtain⟨A,c,es,e,_,hes⟩:=hcs;obtain⟨op,n,un,nm,A2,c2,ar,_,Eo,_⟩:=hes.parts;subst Eo;rw[e];refine⟨A',c',[u0,u1,u2,u3,u4],fun b=>if b<w1.heap.size then 0 else 1,rfl,?_,he.mono fun b _ hb=>⟨⟨by omega,fV af⟩,by simp only[if_neg (show ¬b<w1.heap.size by omega)]⟩⟩;have hx:dy jM 78 (p+2) w1 (fun b=>wr.heap.size≤b) (bQ A' s.funcs[k].params.length c') s.funcs[k].params:=dy.fresh hc af fun b hb=>hb;exact(hx.mono (U':=fun b=>wr.heap.size≤b∧b<w1.heap.size) (fun b hb q=>⟨q,hb⟩)).keep (cA.cj hb2) |>.mono fun b _ q=>⟨⟨by omega,fV q.1⟩,by simp only[if_pos q.2]⟩)
 exact h1.with4 (g:=g) (CE _ _) (hr.2 g rfl) (hr.1.lt g rfl).1 (by rw[hA];exact hst)
end
end
section
structure Ma (p:Nat) (w:World) (a:dU) (s:bY) (tag:Tag) (k3 k4 k5 k h0:Nat) (x:cw) (A':Option Addr) (c':Nat) (oz:Tag) (kk:Nat) (wr:World):Prop where
 blk:cH wr p 31 (cn a s)
 res:cH wr (p+1) 31 (gh)
 i1:dy gN 143 (p+2) wr (UT tag (p+2) 1) (bQ a.A1 s.imports a.c1) s.imports
 i2:dy jg 125 (p+2) wr (UT tag (p+2) 2) (bQ a.A2 s.inputs a.c2) s.inputs
 i3:iN fO (vw 153 (p+2)) 106 3 (p+2) tag s.tables k3 wr (bQ a.A3 s.tables a.c3)
 i4:iN jb (uT 78 (p+2)) 76 4 (p+2) tag s.funcs k4 wr (bQ a.A4 s.funcs a.c4)
 i5:iN dS dS 56 5 (p+2) tag s.cells k5 wr (bQ a.A5 s.cells a.c5)
 i6:dy lH 127 (p+2) wr (UT tag (p+2) 6) (bQ a.A6 s.b9 a.c6) s.b9
 i7:dy jh 136 (p+2) wr (UT tag (p+2) 7) (bQ a.A7 s.stores a.c7) s.stores
 i8:mb 2 62 (p+2) wr (bQ a.A8 s.bX a.c8) s.bX.length fun j cs=>if j=k then cs=[bV x.kind,bQ A' x.steps c']else EM dL (ko 9 65 (p+2)) 8 (p+2) tag s.bX k wr j cs
 own8:∀ g,(bQ a.A8 s.bX a.c8).ownBlock=some g→tag g=(18,0)
 bU:Below p w wr
 hx:s.bX[k]? =some x
 inn:iN gT (lJ 9 (p+2)) 65 0 (p+2) oz x.steps kk wr (bQ A' x.steps c')
 new:∀ b,(oz b).1=0∨(oz b).1=10→h0≤b
 tags:∀ b,h0≤b→tag b=(8,k)
 base:p+2≤h0∧h0≤wr.heap.size
section
variable {p:Nat} {w wr w1:World} {a:dU} {s:bY} {tag:Tag} {k3 k4 k5 k h0 kk c' g:Nat} {x:cw} {A':Option Addr} {oz:Tag} {S:Nat→Prop}
theorem Kc {w w':World} {j:Nat} {cs:List Value} (h:EM dL (ko 9 65 (p+2)) 8 (p+2) tag s.bX k w j cs) (hk:cA (fun b=>b<p+2∨∃ i,i<k∧tag b=(8,i)) w w'):EM dL (ko 9 65 (p+2)) 8 (p+2) tag s.bX k w' j cs:=fun y hy=>by
 have h1:=h y hy;split
 ·next q=>
  rw[if_pos q]at h1;exact Rel.keep _ h1 ⟨hk.1,fun b hb hs=>hk.2 b hb (.inr ⟨j,q,hs.2⟩)⟩
 next q=>
 rw[if_neg q]at h1;exact Rel.keep _ h1 ⟨hk.1,fun b hb hs=>hk.2 b hb (.inl hs)⟩
theorem Ma.keep {kk':Nat} {Qp:Tag} (h:Ma p w a s tag k3 k4 k5 k h0 x A' c' oz kk wr) (hs:wr.heap.size≤w1) (hb:∀ b,b<wr.heap.size→b<h0→w1.heap[b]? =wr.heap[b]?) (ho:w1.os=wr.os∧w1.tape=wr.tape∧w1.output=wr.output) (hi:iN gT (lJ 9 (p+2)) 65 0 (p+2) Qp x.steps kk' w1 (bQ A' x.steps c')) (hn:∀ b,(Qp b).1=0∨(Qp b).1=10→h0≤b):Ma p w a s tag k3 k4 k5 k h0 x A' c' Qp kk' w1:=by
 have hb1:=h.base.1;have hk:∀ {i:Nat},i≠8→cA (fun b=>b<p+2∨UT tag (p+2) i b) wr w1:=fun {i} hi=>⟨hs,fun b vV hq=>hb b vV (by
  rcases hq with hq|hq
  (·omega);rcases Nat.lt_or_ge b h0 with q|q
  (·exact q);have:=hq.2;rw[h.tags b q]at this;simp only at this;omega)⟩
 have ZV:∀ {i:Nat},i≠8→cA (UT tag (p+2) i) wr w1:=fun hi=>⟨hs,fun b vV hq=>(hk hi).2 b vV (.inr hq)⟩;refine⟨(hb p h.blk.lt af).trans h.blk,(hb (p+1) h.res.lt af).trans h.res,h.i1.keep (ZV ag),h.i2.keep (ZV ag),h.i3.keep (hk ag),h.i4.keep (hk ag),h.i5.keep (hk ag),h.i6.keep (ZV ag),h.i7.keep (ZV ag),?_,h.own8,
  ⟨ho.1.trans h.bU.os,ho.2.1.trans h.bU.tape,ho.2.2.trans h.bU.output,Nat.le_trans h.bU.size hs,fun b IM=>(hb b (by have:=h.res.lt;omega) af).trans (h.bU.block b IM)⟩,h.hx,hi,hn,h.tags,⟨hb1,Nat.le_trans h.base.2 hs⟩⟩
 refine h.i8.move (fun g hg=>?_) fun j cs _ he=>?_
 ·have hg2:=(h.i8.lt g hg).2;refine hb g hg2 ?_;rcases Nat.lt_or_ge g h0 with q|q
  (·exact q);have h9:=h.own8 g hg;rw[h.tags g q]at h9;injection h9 with h9 _;omega
 by_cases q:j=k
 (·rw[if_pos q]at he ⊢;exact he);rw[if_neg q]at he ⊢;exact Kc he ⟨hs,fun b vV hq=>hb b vV (by
  rcases hq with hq|⟨i,hi,hq⟩
  (·omega);rcases Nat.lt_or_ge b h0 with r|r
  (·exact r);rw[h.tags b r]at hq;injection hq with _ hq;omega)⟩
theorem Ma.gX (h:Ma p w a s tag k3 k4 k5 k h0 x A' c' oz kk wr) (hb:Below wr wr w1):Ma p w a s tag k3 k4 k5 k h0 x A' c' oz kk w1:=
 h.keep hb.size (fun b vV _=>hb.block b vV) ⟨hb.os,hb.tape,hb.output⟩ (h.inn.bU hb) h.new
theorem qw.open8 (h:qw p w a s tag k3 k4 k5 k wr) (hk:s.bX[k]? =some x) (hA:a.A8=bS g 0) (hb:Below wr wr w1) (hc:cV gT 65 wr.heap.size w1 S (bQ A' x.steps c') x.steps) (hS:∀ b,S b→b<p+2):Ma p w a s (iO tag wr (8,k)) k3 k4 k5 k wr x A' c' (iO (fun _=>(99,0)) wr (10,0)) 0 (w1.setCell (bS g (k*2+1)) (bQ A' x.steps c')):=by
 have hp:=h.res.lt;have qW:=(List.getElem?_eq_some_iff.1 hk).1;have h1:=(h.gD (tag':=iO tag wr (8,k)) eK).gX hb;have hr:=h1.i8;rw[hA]at hr;have ht:=hr.2 g rfl;have hgB:=(hr.1.lt g rfl).1;have oZ:∀ b,b≠g→(w1.setCell (bS g (k*2+1)) (bQ A' x.steps c')).heap[b]? =w1.heap[b]? :=fun b hb=>Below.heap_setCell w1 (bS g (k*2+1)) _ b hb;have Qq:w1.grownBy (w1.setCell (bS g (k*2+1)) (bQ A' x.steps c')) (some g):=⟨rfl,rfl,rfl,by simp[World.setCell],fun b _ hb=>oZ b (fun e=>hb (by rw[e]))⟩;have hm:=hr.1.put (j:=k) (i:=1) (E':=fun j cs=>if j=k then cs=[bV x.kind,bQ A' x.steps c']else EM dL (ko 9 65 (p+2)) 8 (p+2) (iO tag wr (8,k)) s.bX k w1 j cs) qW (by show 1<2;decide) (bQ A' x.steps c')
  (fun cs dn he=>by
   have h2:=he x hk;rw[if_neg (Nat.lt_irrefl k)]at h2;obtain⟨A,c,e,_⟩:=h2;rw[if_pos rfl,e];rfl) (fun j' cs hj _ he=>by rw[if_neg hj];exact he)
 have hgsz:=(hr.1.lt g rfl).2;have hgo:∀ b,wr.heap.size≤b→b≠g:=fun b hb e=>by
  rw[e]at hb;rw[fV hb]at ht;injection ht with ht _;omega
 refine⟨(oZ p af).trans h1.blk,(oZ (p+1) af).trans h1.res,h1.i1.keep (cA.cW Qq fun b q=>gO (i:=1) (j:=8) ag ag ag ht q hgB),h1.i2.keep (cA.cW Qq fun b q=>gO (i:=2) (j:=8) ag ag ag ht q hgB),
  h1.i3.keep (cA.cW Qq fun b q=>kJ (i:=3) (j:=8) ag ag ag ht q hgB),h1.i4.keep (cA.cW Qq fun b q=>kJ (i:=4) (j:=8) ag ag ag ht q hgB),h1.i5.keep (cA.cW Qq fun b q=>kJ (i:=5) (j:=8) ag ag ag ht q hgB),
  h1.i6.keep (cA.cW Qq fun b q=>gO (i:=6) (j:=8) ag ag ag ht q hgB),h1.i7.keep (cA.cW Qq fun b q=>gO (i:=7) (j:=8) ag ag ag ht q hgB),?_,?_,h1.bU.grown Qq af (fun g' e=>by injection e with e;omega),hk,?_,?_,fun b hb=>fV hb,⟨by omega,by have:=hb.size;simpa [World.setCell]using this⟩⟩
 ·rw[hA];refine hm.move (fun _ _=>rfl) fun j cs _ he=>?_;by_cases q:j=k
  (·rw[if_pos q]at he ⊢;exact he);rw[if_neg q]at he ⊢;exact Kc he (cA.cW Qq fun b hq e=>by
   injection e with e;subst e;rcases hq with hq|⟨i,_,hq⟩
   (·omega);rw[ht]at hq;injection hq with hq _;omega)
 (·rw[hA];exact hr.2)
 ·have hq:iN gT (lJ 9 (p+2)) 65 0 (p+2) (iO (fun _=>(99,0)) wr (10,0)) x.steps 0 w1 (bQ A' x.steps c'):=iN.start rfl hc af hS fun g' hg'=>fV (hc.lt g' hg').1;exact hq.keep (cA.cW Qq fun b hb e=>by
   injection e with e;subst e;rcases hb with hb|hb
   (·omega);have:=hb.2;rcases Nat.lt_or_ge b wr with r|r
   (·rw[eK b r]at this;simp at this);exact hgo b r rfl)
 intro b hb;rcases Nat.lt_or_ge b wr with r|r
 (·rw[eK b r]at hb;simp at hb);exact r
theorem Ma.shut (h:Ma p w a s tag k3 k4 k5 k h0 x A' c' oz kk wr) (hk:x.steps.length≤kk):qw p w a s tag k3 k4 k5 (k+1) wr:=by
 refine⟨h.blk,h.res,h.i1,h.i2,h.i3,h.i4,h.i5,h.i6,h.i7,⟨h.i8.move (fun _ _=>rfl) fun j cs _ he y hy=>?_,h.own8⟩,h.bU⟩;by_cases q:j=k
 (·subst q;rw[if_pos rfl]at he;rw[if_pos af];have hxy:x=y:=Option.some.inj (h.hx.symm.trans hy);subst hxy;exact⟨A',c',he,(h.inn.done hk).mono fun b _ hb=>⟨hb.1,h.tags b (h.new b hb.2)⟩⟩);rw[if_neg q]at he;have h2:=he y hy;by_cases q2:j<k
 (·rw[if_pos q2]at h2;rw[if_pos af];exact h2);rw[if_neg q2]at h2;rw[if_neg af];exact h2
theorem Ma.step {w2 w3:World} {z:dV} {A1 A2 A3:Option Addr} {c1 c2 c3:Nat} {S1 S2 S3:Nat→Prop} (h:Ma p w a s tag k3 k4 k5 k h0 x A' c' oz kk wr) (hkk:kk<x.steps.length) (hz:x.steps[kk]=z) (hA:A'=bS g 0) (hb1:Below wr wr w1) (o1:cV dw 9 wr.heap.size w1 S1 (bQ A1 z.inp c1) z.inp) (hb2:Below w1 w1 w2) (o2:cV dw 9 w1.heap.size w2 S2 (bQ A2 z.o c2) z.o) (hb3:Below w2 w2 w3) (o3:cV dw 9 w2.heap.size w3 S3 (bQ A3 z.cells c3) z.cells):Ma p w a s tag k3 k4 k5 k h0 x A' c' (iO oz wr (0,kk)) (kk+1) (gY g (kk*6) w3 [(1,bQ A1 z.inp c1),(2,bQ A2 z.o c2),(4,bQ A3 z.cells c3)]):=by
 subst hz;have hs1:=hb1.size;have hs2:=hb2.size;have hs3:=hb3.size;have hbT:Below wr wr w3:=hb1.trans ((hb2.mono hs1).trans (hb3.mono (Nat.le_trans hs1 hs2)));have hb0:=h.base;have hr:=(h.inn.gD (tag':=iO oz wr (0,kk)) eK).bU hbT;rw[hA]at hr;have hst:=iN.steps [(1,bQ A1 x.steps[kk].inp.length c1),(2,bQ A2 x.steps[kk].o.length c2),(4,bQ A3 x.steps[kk].cells.length c3)] hr rfl hkk (by intro y hy;show y.1<6;simp at hy;rcases hy with rfl|rfl|rfl<;>simp) (fun cs hcs=>by
  obtain⟨B1,d1,B2,d2,B3,d3,e,_⟩:=hcs;rw[e];refine⟨A1,c1,A2,c2,A3,c3,fun b=>if b<w1.heap.size then 0 else if b<w2.heap.size then 1 else 2,rfl,?_,?_,?_⟩
  (·have hx:dy dw 9 (p+2) w1 (fun b=>wr.heap.size≤b) (bQ A1 x.steps[kk].inp.length c1) x.steps[kk].inp:=dy.fresh o1 af fun b hb=>hb;exact(hx.mono (U':=fun b=>wr.heap.size≤b∧b<w1.heap.size) (fun b hb q=>⟨q,hb⟩)).keep (cA.cj (hb2.trans (hb3.mono hs2))) |>.mono fun b _ q=>⟨⟨by omega,fV q.1⟩,by simp only[if_pos q.2]⟩)
  (·have hx:dy dw 9 (p+2) w2 (fun b=>w1.heap.size≤b) (bQ A2 x.steps[kk].o.length c2) x.steps[kk].o:=dy.fresh o2 af fun b hb=>hb;exact(hx.mono (U':=fun b=>w1.heap.size≤b∧b<w2.heap.size) (fun b hb q=>⟨q,hb⟩)).keep (cA.cj hb3) |>.mono fun b _ q=>⟨⟨by omega,fV af⟩,by simp only[if_neg (show ¬b<w1.heap.size by omega),if_pos q.2]⟩);have hx:dy dw 9 (p+2) w3 (fun b=>w2.heap.size≤b) (bQ A3 x.steps[kk].cells.length c3) x.steps[kk].cells:=dy.fresh o3 af fun b hb=>hb;exact hx.mono fun b _ q=>⟨⟨by omega,fV af⟩,by simp only[if_neg (show ¬b<w1.heap.size by omega),if_neg (show ¬b<w2.heap.size by omega)]⟩)
 have hgt:=hr.2 g rfl;have hgnew:h0≤g:=by
  rcases Nat.lt_or_ge g wr with r|r
  (·rw[eK g r]at hgt;exact h.new g (.inr (by rw[hgt])));omega
 obtain⟨f1,f2,f3,f4,f5⟩:=fZ (g:=g) (o:=kk*6) [(1,bQ A1 x.steps[kk].inp.length c1),(2,bQ A2 x.steps[kk].o.length c2),(4,bQ A3 x.steps[kk].cells.length c3)] w3;refine h.keep (by have:=hbT.size;omega) (fun b hb hbh=>(f5 b af).trans (hbT.block b hb)) ⟨f2.trans hbT.os,f3.trans hbT.tape,f4.trans hbT.output⟩ (by rw[hA];exact hst) fun b hb=>?_;rcases Nat.lt_or_ge b wr with r|r
 (·rw[eK b r]at hb;exact h.new b hb);omega
end
structure eO (B:Nat) (w:World) (a:dU) (s:bY) (tag:Tag):Prop where
 i1:dy gN 143 B w (UT tag B 1) (bQ a.A1 s.imports a.c1) s.imports
 i2:dy jg 125 B w (UT tag B 2) (bQ a.A2 s.inputs a.c2) s.inputs
 i3:dy (vw 153 B) 106 B w (UT tag B 3) (bQ a.A3 s.tables a.c3) s.tables
 i4:dy (uT 78 B) 76 B w (UT tag B 4) (bQ a.A4 s.funcs a.c4) s.funcs
 i5:dy dS 56 B w (UT tag B 5) (bQ a.A5 s.cells a.c5) s.cells
 i6:dy lH 127 B w (UT tag B 6) (bQ a.A6 s.b9 a.c6) s.b9
 i7:dy jh 136 B w (UT tag B 7) (bQ a.A7 s.stores a.c7) s.stores
 i8:dy (ko 9 65 B) 62 B w (UT tag B 8) (bQ a.A8 s.bX a.c8) s.bX
section
variable {p:Nat} {w wr:World} {a:dU} {s:bY} {tag:Tag}
theorem eO.keep {B:Nat} {w':World} (h:eO B w a s tag) (hk:cA (fun b=>B≤b) w w'):eO B w' a s tag:=
 have k:∀ i,cA (UT tag B i) w w':=fun i=>⟨hk.1,fun b hb q=>hk.2 b hb q.1⟩
 ⟨h.i1.keep (k 1),h.i2.keep (k 2),h.i3.keep (k 3),h.i4.keep (k 4),h.i5.keep (k 5),h.i6.keep (k 6),h.i7.keep (k 7),h.i8.keep (k 8)⟩
theorem qw.all (h:qw p w a s tag s.tables.length s.funcs.length s.cells.length s.bX.length wr):eO (p+2) wr a s tag:=
 ⟨h.i1,h.i2,h.i3.done (Nat.le_refl _),h.i4.done (Nat.le_refl _),h.i5.done (Nat.le_refl _),h.i6,h.i7,h.i8.done (Nat.le_refl _)⟩
def qX (s:bY) (w:World) (e:Ending) (w':World):Prop:=∃ a tag,e= .returned (.agg (cn a s).toArray)∧eO (w+2) w' a s tag∧Below w w w'∧w.heap.size+2≤w'
theorem qw.ends (h:qw p w a s tag s.tables.length s.funcs.length s.cells.length s.bX.length wr) (hp:p=w.heap.size) (ws:List (Nat×Value)):qX s w (.returned (.agg (cn a s).toArray)) (gY (p+1) 0 wr ws):=by
 subst hp;obtain⟨f1,f2,f3,f4,f5⟩:=fZ (g:=w.heap.size+1) (o:=0) ws wr;have h1:=h.all.keep (w':=gY (w+1) 0 wr ws) ⟨by omega,fun b _ hb=>f5 b af⟩;exact⟨a,tag,rfl,h1,⟨f2.trans h.bU.os,f3.trans h.bU.tape,f4.trans h.bU.output,by have:=h.bU.size;omega,fun b hb=>(f5 b af).trans (h.bU.block b hb)⟩,by have:=h.res.lt;omega⟩
end
end
section
theorem dy.replace {α:Type} {R:Rel α} {T B g n c j:Nat} {w0 w1:World} {U U':Nat→Prop} {xs:List α} {y:α} (ws:List (Nat×Value)) {cs':List Value} (h:dy R T B w0 U (bQ (bS g 0) n c) xs) (hn:n=xs.length) (hj:j<xs.length) (hb:cA U w0 w1) (hy:R.is w1 (fun b=>w0.heap.size≤b) cs' y) (hws:∀ cs,cs.length=R.k→sets cs ws=cs') (hm:∀ x∈ws,x.1<R.k) (h1:∀ b,b<w0.heap.size→U b→U' b) (h2:∀ b,w0.heap.size≤b→U' b):dy R T B (gY g (j*R.k) w1 ws) U' (bQ (bS g 0) n c) (xs.set j y):=by
 subst hn;obtain⟨t,hU,hr⟩:=h;have hg:=(hr.lt g rfl).2;obtain⟨f1,_,_,_,f5⟩:=fZ (g:=g) (o:=j*R.k) ws w1;have zT:mb R.k T B w1 (bQ (bS g 0) xs c) xs.length fun i cs=>∀ x,xs[i]? =some x→R.is w1 (fun b=>U b∧b≠g∧t b=i∧b<w0.heap.size) cs x:=
  hr.move (fun g' hg'=>hb.2 g' (hr.lt g' hg').2 (hU g' hg')) fun i cs _ he x hx=>R.keep (R.mono (he x hx) fun b hb' q=>⟨q.1,fun e=>q.2.1 bf,q.2.2,hb'⟩) ⟨hb.1,fun b hb' q=>hb.2 b hb' q.1⟩
 have hm2:=zT.gY ws hj hm;refine⟨fun b=>if b<w0.heap.size then t b else j,fun g' hg'=>?_,?_⟩
 (·have e:g=g':=(by simpa [Value.ownBlock]using hg');subst e;exact h1 g hg (hU g rfl));rw[List.length_set];refine hm2.move (fun _ _=>rfl) fun i cs hi he x hx=>?_;by_cases q:i=j
 (·subst q;rw[if_pos rfl]at he;obtain⟨cs0,hl0,_,e⟩:=he;rw[hws cs0 hl0]at e;subst e;have hxy:y=x:=(by rw[List.getElem?_set_self hj]at hx;exact Option.some.inj hx);subst hxy;refine R.mono (R.keep hy ⟨by omega,fun b _ hb'=>f5 b af⟩) fun b _ hb'=>⟨h2 b hb',by simp[Value.ownBlock];omega,by simp only[if_neg (show ¬b<w0.heap.size by omega)]⟩);rw[if_neg q]at he;rw[List.getElem?_set_ne (fun e=>q e.symm)]at hx;exact R.mono (R.keep (he x hx) ⟨by omega,fun b _ hb'=>f5 b hb'.2.1⟩) fun b _ hb'=>⟨h1 b hb'.2.2.2 hb'.1,by simp[Value.ownBlock];exact hb'.2.1,by simp only[if_pos hb'.2.2.2];exact hb'.2.2.1⟩
theorem Sq.to {α:Type} {R R':Rel α} {w:World} {S S':Nat→Prop} {A:Option Addr} {xs:List α} (h:Sq R w S A xs) (hk:R.k=R'.k) (hs:∀ b,b<w.heap.size→S b→S' b) (hi:∀ cs x,R.is w S cs x→R'.is w S' cs x):Sq R' w S' A xs:=by
 obtain⟨css,h1,h2,h3⟩:=h;exact⟨css,h1,hk▸h2.mono hs,fun j cs x hc hx=>hi cs x (h3 j cs x hc hx)⟩
section
variable {w:World} {U S':Nat→Prop} {A:Option Addr} {T TS B:Nat}
theorem Vp {xs:List eB} (h:Sq (vw T B) w U A xs) (hs:∀ b,b<w.heap.size→U b→S' b):Sq fO w S' A xs:=
 h.to rfl hs fun cs x ⟨A,c,e,q⟩=>⟨A,c,e,q.sq.mono hs⟩
theorem ZW {xs:List eU} (h:Sq (uT T B) w U A xs) (hs:∀ b,b<w.heap.size→U b→S' b):Sq jb w S' A xs:=
 h.to rfl hs fun cs x ⟨A,c,es,t,e,q1,q2⟩=>⟨A,c,es,e,q1.sq.mono fun b hb q=>hs b hb q.1,q2.mono fun b hb q=>hs b hb q.1⟩
theorem ZX {xs:List dV} (h:Sq (lJ T B) w U A xs) (hs:∀ b,b<w.heap.size→U b→S' b):Sq gT w S' A xs:=
 h.to rfl hs fun cs x ⟨A1,c1,A2,c2,A3,c3,t,e,q1,q2,q3⟩=>⟨A1,c1,A2,c2,A3,c3,e,q1.sq.mono fun b hb q=>hs b hb q.1,q2.sq.mono fun b hb q=>hs b hb q.1,q3.sq.mono fun b hb q=>hs b hb q.1⟩
theorem RZ {xs:List cw} (h:Sq (ko TS T B) w U A xs) (hs:∀ b,b<w.heap.size→U b→S' b):Sq dL w S' A xs:=
 h.to rfl hs fun cs x ⟨A,c,e,q⟩=>⟨A,c,e,ZX q.sq hs⟩
end
section
variable {B g j:Nat} {w0 w1:World} {a:dU} {s:bY} {tag:Tag}
theorem eO.Vq {w':World} (h:eO B w0 a s tag) (hk:∀ i,i<10→cA (UT tag B i) w0 w'):eO B w' a s tag:=
 ⟨h.i1.keep (hk 1 ag),h.i2.keep (hk 2 ag),h.i3.keep (hk 3 ag),h.i4.keep (hk 4 ag),h.i5.keep (hk 5 ag),h.i6.keep (hk 6 ag),h.i7.keep (hk 7 ag),h.i8.keep (hk 8 ag)⟩
theorem eO.gD {tag':Tag} (h:eO B w0 a s tag) (ht:∀ b,b<w0.heap.size→tag' b=tag b):eO B w0 a s tag':=
 ⟨h.i1.gD ht,h.i2.gD ht,h.i3.gD ht,h.i4.gD ht,h.i5.gD ht,h.i6.gD ht,h.i7.gD ht,h.i8.gD ht⟩
theorem eO.bU {w':World} (h:eO B w0 a s tag) (hb:Below w0 w0 w'):eO B w' a s tag:=h.keep ⟨hb.size,fun b hb' _=>hb.block b hb'⟩
theorem eO.sM (h:eO B w0 a s tag):cB w0 (fun b=>B≤b) a s:=
 ⟨h.i1.sq.mono fun b _ q=>q.1,h.i2.sq.mono fun b _ q=>q.1,Vp h.i3.sq fun b _ q=>q.1,ZW h.i4.sq fun b _ q=>q.1,h.i5.sq.mono fun b _ q=>q.1,h.i6.sq.mono fun b _ q=>q.1,h.i7.sq.mono fun b _ q=>q.1,RZ h.i8.sq fun b _ q=>q.1⟩
theorem eO.set5 {y:cL} {v0 v1 v2 v3 v4 v5 v6:Value} (h:eO B w0 a s tag) (hB:B≤w0.heap.size) (hA:a.A5=bS g 0) (hj:j<s.cells.length) (hb:∀ i,i<10→cA (UT tag B i) w0 w1) (hy:dS.is w1 (fun b=>w0.heap.size≤b) [v0,v1,v2,v3,v4,v5,v6] y):eO B (gY g (j*7) w1 [(0,v0),(1,v1),(2,v2),(3,v3),(4,v4),(5,v5),(6,v6)]) a {s with cells:=s.cells.set j y} (iO tag w0 (5,0)):=by
 have h5:=h.i5;rw[hA]at h5;(have hg:UT tag B 5 g:=by obtain⟨t,hU,_⟩:=h5;exact hU g rfl);(have Jx:g<w0.heap.size:=by obtain⟨t,_,hr⟩:=h5;exact(hr.lt g rfl).2);have hr:=dy.replace (U':=UT (iO tag w0 (5,0)) B 5) [(0,v0),(1,v1),(2,v2),(3,v3),(4,v4),(5,v5),(6,v6)] h5 rfl hj (hb 5 ag) hy (fun cs hcs=>by
  have hl:cs.length=7:=hcs
  match cs,hl with
  |[a0,a1,a2,a3,a4,a5,a6],_=>rfl) (by intro x hx;show x.1<7;simp at hx;rcases hx with rfl|rfl|rfl|rfl|rfl|rfl|rfl<;>simp) (fun b hb' q=>⟨q.1,by rw[eK b hb'];exact q.2⟩) (fun b hb'=>⟨by omega,by rw[fV hb'];exact .inl rfl⟩)
 obtain⟨f1,_,_,_,f5⟩:=fZ (g:=g) (o:=j*7) [(0,v0),(1,v1),(2,v2),(3,v3),(4,v4),(5,v5),(6,v6)] w1;have K:∀ i,i≠5→i<10→cA (UT tag B i) w0 (gY g (j*7) w1 [(0,v0),(1,v1),(2,v2),(3,v3),(4,v4),(5,v5),(6,v6)]):=fun i hi h10=>⟨by have:=(hb i h10).1;omega,fun b hb' q=>(f5 b (fun e=>by
  subst e;rcases hg.2 with q1|q1<;>rcases q.2 with q2|q2<;>omega)).trans ((hb i h10).2 b hb' q)⟩
 have kk:∀ {α:Type} {R:Rel α} {T:Nat} {v:Value} {xs:List α} {i:Nat},i≠5→i<10→dy R T B w0 (UT tag B i) v xs→dy R T B (gY g (j*7) w1 [(0,v0),(1,v1),(2,v2),(3,v3),(4,v4),(5,v5),(6,v6)]) (UT (iO tag w0 (5,0)) B i) v xs:=fun hi h10 q=>
  (q.mono (U':=fun b=>UT tag B _ b∧b<w0.heap.size) (fun b hb' r=>⟨r,hb'⟩)).keep ⟨(K _ hi h10).1,fun b hb' r=>(K _ hi h10).2 b hb' r.1⟩ |>.mono fun b _ r=>⟨r.1.1,by rw[eK b r.2];exact r.1.2⟩
 exact⟨kk ag ag h.i1,kk ag ag h.i2,kk ag ag h.i3,kk ag ag h.i4,by dsimp only;rw[List.length_set,hA];exact hr,kk ag ag h.i6,kk ag ag h.i7,kk ag ag h.i8⟩
end
theorem dy.get {α:Type} {R:Rel α} {T B j:Nat} {w:World} {U:Nat→Prop} {v:Value} {xs:List α} (h:dy R T B w U v xs) (hk:0<R.k) (hj:j<xs.length):∃ g c cs,v=bQ (bS g 0) xs c∧U g∧g<w.heap.size∧R.is w U cs xs[j]∧(∀ i u,cs[i]? =some u→bW w g (j*R.k+i) u)∧∀ i,w.frozen? (bS g i)=false:=by
 obtain⟨t,hU,hr⟩:=h;obtain⟨g,c,cs,hv,_,hg,_,hE,hc,hf⟩:=hr.get hk hj;subst hv;exact⟨g,c,cs,rfl,hU g rfl,hg,R.mono (hE _ (List.getElem?_eq_getElem hj)) fun b _ q=>q.1,hc,hf⟩
structure I0 (p m B:Nat) (w:World) (a:dU) (s:bY) (done:List ByteArray) (tag:Tag) (wr:World):Prop where
 blk:cH wr p 31 (cn a s)
 res:cH wr (p+1) 31 (gh)
 own:eO B wr a s tag
 set:ig wr m done
 mark:tag m=(99,0)
 base:p+2≤B∧B≤m
 bU:Below p w wr
section
variable {p m B:Nat} {w wr w1:World} {a:dU} {s:bY} {done done':List ByteArray} {tag:Tag}
theorem yJ {b i:Nat} (hi:i<10) (h:UT tag B i b) (ht:tag b=(99,0)):False:=by
 have:=h.2;rw[ht]at this;simp only at this;omega
theorem I0.keep (h:I0 p m B w a s done tag wr) (hs:wr.heap.size≤w1) (hk:∀ b,b<wr.heap.size→(b<B∨tag b≠(99,0))→w1.heap[b]? =wr.heap[b]?) (ho:w1.os=wr.os∧w1.tape=wr.tape∧w1.output=wr.output) (oZ:ig w1 m done'):I0 p m B w a s done' tag w1:=by
 have hb:=h.base;exact⟨(hk p h.blk.lt (.inl af)).trans h.blk,(hk (p+1) h.res.lt (.inl af)).trans h.res,h.own.Vq fun i hi=>⟨hs,fun b hb' q=>hk b hb' (.inr fun e=>yJ hi q e)⟩,oZ,h.mark,hb,
  ⟨ho.1.trans h.bU.os,ho.2.1.trans h.bU.tape,ho.2.2.trans h.bU.output,Nat.le_trans h.bU.size hs,fun b IM=>(hk b (by have:=h.blk.lt;omega) (.inl af)).trans (h.bU.block b IM)⟩⟩
theorem I0.gX (h:I0 p m B w a s done tag wr) (hb:Below wr wr w1):I0 p m B w a s done tag w1:=h.keep hb.size (fun b hb' _=>hb.block b hb') ⟨hb.os,hb.tape,hb.output⟩ (h.set.bU hb h.set.lt)
theorem I0.scratch (h:I0 p m B w a s done tag wr):I0 p m B w a s done (iO tag wr (99,0)) wr:=⟨h.blk,h.res,h.own.gD eK,h.set,by rw[eK m h.set.lt];exact h.mark,h.base,h.bU⟩
theorem I0.met (h:I0 p m B w a s done tag wr) (hg:wr.grownBy w1 (some m)) (oZ:ig w1 m done'):I0 p m B w a s done' tag w1:=
 h.keep hg.size (fun b hb q=>hg.block b hb (fun e=>by
  injection e with e;subst e;rcases q with q|q
  (·have:=h.base;omega);exact q h.mark)) ⟨hg.os,hg.tape,hg.output⟩ oZ
end
section
variable {p m B g j:Nat} {w wr w1 w2:World} {a:dU} {s:bY} {done:List ByteArray} {tag:Tag}
theorem I0.put {y:cL} {v0 v1 v2 v3 v4 v5 v6:Value} (h:I0 p m B w a s done tag wr) (hA:a.A5=bS g 0) (hj:j<s.cells.length) (hs:wr.heap.size≤w1) (hk:∀ b,b<wr.heap.size→(b<B∨tag b≠(99,0))→w1.heap[b]? =wr.heap[b]?) (ho:w1.os=wr.os∧w1.tape=wr.tape∧w1.output=wr.output) (oZ:ig w1 m done) (hy:dS.is w1 (fun b=>wr.heap.size≤b) [v0,v1,v2,v3,v4,v5,v6] y):I0 p m B w a {s with cells:=s.cells.set j y} done (iO tag wr (5,0)) (gY g (j*7) w1 [(0,v0),(1,v1),(2,v2),(3,v3),(4,v4),(5,v5),(6,v6)]):=by
 have hb:=h.base;have hml:=h.set.lt;have hB:B≤wr.heap.size:=af;have h5:=h.own.i5;rw[hA]at h5;(have hg:UT tag B 5 g:=by obtain⟨t,hU,_⟩:=h5;exact hU g rfl);(have hgm:m≠g:=fun e=>by rw[← e]at hg;exact yJ ag hg h.mark);have h9:=h.keep hs hk ho oZ;obtain⟨f1,f2,f3,f4,f5⟩:=fZ (g:=g) (o:=j*7) [(0,v0),(1,v1),(2,v2),(3,v3),(4,v4),(5,v5),(6,v6)] w1;have hO:=h.own.set5 hB hA hj (fun i hi=>⟨hs,fun b hb' q=>hk b hb' (.inr fun e=>yJ hi q e)⟩) hy;have hsc:cn a {s with cells:=s.cells.set j y}=cn a s:=(by unfold cn;simp);refine⟨?_,(f5 (p+1) (by have:=hg.1;omega)).trans h9.res,hO,h9.set.of_block (f5 m hgm),by rw[eK m hml];exact h.mark,hb,⟨f2.trans h9.bU.os,f3.trans h9.bU.tape,f4.trans h9.bU.output,by have:=h9.bU.size;omega,fun b IM=>(f5 b (by have:=hg.1;omega)).trans (h9.bU.block b IM)⟩⟩;rw[hsc];exact(f5 p (by have:=hg.1;omega)).trans h9.blk
end
end
end Go.Proofs.YtkfofnjfihfgkaaGreatDoor
namespace Go.Proofs.YtkfofnjfihfgkaaGreatDoor
open Go Go.RowKit Bg Go.Proofs
theorem vW (w:World) (o:Obj) (b i:Nat) (h:b<w.heap.size):(w.alloc o).cell? (bS b i)=w.cell? (bS b i):=World.cell?_alloc_lt w o (bS b i) h
def newF (p q:iC):eD:=⟨qi p.sign (dJ p / Nat.gcd (dJ p) (dJ q)),qi 1 (dJ q / Nat.gcd (dJ p) (dJ q))⟩
theorem G2 {p q:iC} (hq:0<dJ q):0<Nat.gcd (dJ p) (dJ q):=Nat.gcd_pos_of_pos_right _ hq
theorem kQ {s:Int} {n:Nat} (h:n≠0):(qi s n).sign=s:=by unfold qi;rw[if_neg h]
theorem qY {b:iC} (h:dx b=true) (hs:b.sign=1):0<dJ b:=by
 have:=lC h;(have:dJ b≠0:=fun e=>by have:=this.1 e;omega);omega
theorem vD {p q:iC} (hp:dx p=true) (hq:dx q=true) (hs:q.sign=1):dF (newF p q)=true:=by
 have Vr:=qY hq hs;have hg:=G2 (p:=p) Vr;have hd:0<dJ q / Nat.gcd (dJ p) (dJ q):=Nat.div_pos (Nat.le_of_dvd Vr (Nat.gcd_dvd_right _ _)) hg;unfold dF newF;simp only[Bool.and_eq_true,beq_iff_eq,wC];refine⟨⟨⟨zF ?_,mV (.inl rfl)⟩,kQ af⟩,by rw[Nat.gcd_div (Nat.gcd_dvd_left _ _) (Nat.gcd_dvd_right _ _)];exact Nat.div_self hg⟩;rcases ql hp with h|h|h
 (·exact .inr (.inl h))
 (·refine .inr (.inr ?_);have:=(lC hp).2 h;rw[this];simp);exact .inl h
def Br (M:Nat) (f:eD) (w:World) (e:Ending) (w':World):Prop:=
 ∃ s A n c t B m d,e= .returned (.tuple #[.agg #[bR s,bQ A n c,bR t,bQ B m d],bR 0])∧dI M w' s A n t B m f∧(dM w A∧dM w B)∧Below w w w'
def Qr (M:Nat) (f:eD) (w:World) (e:Ending) (w':World):Prop:=
 ∃ s A n c t B m d,e= .returned (.agg #[bR s,bQ A n c,bR t,bQ B m d])∧dI M w' s A n t B m f∧(dM w A∧dM w B)∧Below w w w'
theorem CF {M n n':Nat} {s s':Int} {A A':Option Addr} {p q:iC} (c c':Nat) (w:World) (h:cZ M w s A n p) (h':cZ M w s' A' n' q) (hrp:dx p=true) (hrq:dx q=true) (hs:s'=1) (hM:M+M≤400000):Calls prog 199 #[.agg #[bR s,bQ A n c],.agg #[bR s',bQ A' n' c']] w (Br M (newF p q) w):=by
 subst hs;have hqs:q.sign=1:=h'.1;have hps:p.sign=s:=h.1;have hr:=fun W (k:cZ M W s A n p)=>jk c k af;have hr':=fun W (k:cZ M W 1 A' n' q)=>jk c' k af;rw[hrp]at hr;rw[hrq]at hr';have Vr:=qY hrq hqs;have hg0:=G2 (p:=p) Vr;have H:=aa h;have H':=aa h';have HR:=aa hr;have Vf:=aa hr';have HG:=aa (fun W (k:cZ M W s A n p) (k':cZ M W 1 A' n' q)=>Ql c c' W k k' hrp hrq hM);have hN:newF p q=⟨qi s (dJ p / Nat.gcd (dJ p) (dJ q)),qi 1 (dJ q / Nat.gcd (dJ p) (dJ q))⟩:=(by unfold newF;rw[hps]);have zT:dJ p % Nat.gcd (dJ p) (dJ q)=0:=Nat.mod_eq_zero_of_dvd (Nat.gcd_dvd_left _ _);have hm2:dJ q % Nat.gcd (dJ p) (dJ q)=0:=Nat.mod_eq_zero_of_dvd (Nat.gcd_dvd_right _ _);rw[hN];clear hN hqs hps hr hr' h h' Vr;generalize Nat.gcd (dJ p) (dJ q)=G at*;have hGr:dx (qi 1 G)=true:=mV (.inl rfl);have hGv:dJ (qi 1 G)=G:=wC 1 G;have HD1:=aa (fun W sg Ag ng cg (k:cZ M W s A n p) (k':cZ (M+M) W sg Ag ng (qi 1 G)) (e:sg=1)=>J6 c cg W k k' hrp hGr e (.inr (by rw[hGv];exact zT)) af af);have ZY:=aa (fun W sg Ag ng cg (k:cZ M W 1 A' n' q) (k':cZ (M+M) W sg Ag ng (qi 1 G)) (e:sg=1)=>J6 c' cg W k k' hrq hGr e (.inl af) af af);rw[hGv,zT]at HD1;rw[hGv,hm2]at ZY;have HSG:=aa (show(qi 1 G).sign=1 from kQ af);clear zT hm2 hGr hGv hrp hrq hg0;go_enter func199,ntmps199;go_wp2_with fail;refine(HR.o _ (((H.o.alloc _).alloc _).alloc _)).mono ?_;rintro e w1 ⟨rfl,hb1⟩;have eJ:=aa (show Below w w w1 from((((Below.refl _ w).alloc (Nat.le_refl _) _).alloc aj _).alloc aq _).trans (hb1.mono aq));obtain⟨hc1,jH⟩:=iu hb1;have Vs:=hb1.size;simp only[World.size_alloc]at Vs;have z0:w.heap.size<w1:=af;have z1:w.heap.size+1<w1:=af;have z2:w.heap.size+1+1<w1:=af;clear hb1 Vs;go_wp2_with fail;refine(Vf.o _ (H'.o.bU eJ.o)).mono ?_;rintro e w2 ⟨rfl,hb2⟩;have eT:=aa (eJ.o.trans (hb2.mono eJ.o.size));obtain⟨hc2,hf2⟩:=iu hb2;have YI:=hb2.size;have y0:w.heap.size<w2:=af;have y1:w.heap.size+1<w2:=af;have y2:w.heap.size+1+1<w2:=af;clear hb2 YI;go_wp2_with fail;refine(HG.o _ (H.o.bU eT.o) (H'.o.bU eT.o)).mono ?_;rintro e w3 ⟨sg,Ag,ng,cg,rfl,hAg,hFg,hb3⟩;have gV:=aa (eT.o.trans (hb3.mono eT.o.size));obtain⟨hc3,hf3⟩:=iu hb3;have R_:=hb3.size;have x0:w.heap.size<w3:=af;have x1:w.heap.size+1<w3:=af;have x2:w.heap.size+1+1<w3:=af;have HAG:=aa hAg;have hsg:sg=1:=hAg.1.symm.trans HSG.o;have HSGE:=aa hsg;clear hb3 R_ hAg hFg hsg;go_wp2_with fail;refine(HD1.o _ _ _ _ _ ((H.o.bU gV.o).alloc _) (HAG.o.alloc _) HSGE.o).mono ?_;rintro e w4 ⟨sa,Aa,na,ca,sr,Ar,nr,cr,rfl,hAa,_,hFa,hb4⟩;have mm:=aa ((gV.o.alloc gV.o.size _).trans (hb4.mono (by have:=gV.o.size;simp;omega)));obtain⟨vT,L9⟩:=iu hb4;have I1:=hb4.size;simp only[World.size_alloc]at I1;have v0:w.heap.size<w4:=af;have v1:w.heap.size+1<w4:=af;have v2:w.heap.size+1+1<w4:=af;have v3:w3.heap.size<w4:=af;have HAA:=aa hAa;have Mb:=aa (show dM (w3+1) Aa by simpa using hFa.1);have HG4:=aa (show Below w3 w3 w4 from((Below.refl _ w3).alloc (Nat.le_refl _) _).trans (hb4.mono aj));clear hb4 I1 hAa hFa;go_wp2_with fail;refine(ZY.o _ _ _ _ _ (((H'.o.bU mm.o).alloc _).alloc _) (((HAG.o.bU HG4.o).alloc _).alloc _) HSGE.o).mono ?_;rintro e w5 ⟨sb,Ab,nb,cb,st,At,nt,ct,rfl,hAb,_,hFb,fH⟩;have fu:=aa (((mm.o.alloc mm.o.size _).alloc (by have:=mm.o.size;simp;omega) _).trans (fH.mono (by have:=mm.o.size;simp;omega)));obtain⟨sV,RS⟩:=iu fH;have xb:=fH.size;simp only[World.size_alloc]at xb;have u0:w.heap.size<w5:=af;have u1:w.heap.size+1<w5:=af;have u2:w.heap.size+1+1<w5:=af;have u3:w3.heap.size<w5:=af;have u4:w4.heap.size<w5:=af;have u5:w4.heap.size+1<w5:=af;have HAB:=aa hAb;have ZZ:=aa (show dM (w4+1+1) Ab by simpa using hFb.1);have HG5:=aa (show Below w4 w4 w5 from(((Below.refl _ w4).alloc (Nat.le_refl _) _).alloc aj _).trans (fH.mono aq));clear fH xb hAb hFb;go_wp2_with fail;have e0:bW w5 (w+1+1) 0 (bR 0):=(sV _ _ ak).trans ((vW _ _ _ _ ak).trans ((vW _ _ _ _ v2).trans ((vT _ _ ak).trans ((vW _ _ _ _ x2).trans ((hc3 _ _ y2).trans ((hc2 _ _ z2).trans ((hc1 _ _ ak).trans ax)))))));have e1:bW w5 (w+1+1) 1 (bQ none 0 0):=(sV _ _ ak).trans ((vW _ _ _ _ ak).trans ((vW _ _ _ _ v2).trans ((vT _ _ ak).trans ((vW _ _ _ _ x2).trans ((hc3 _ _ y2).trans ((hc2 _ _ z2).trans ((hc1 _ _ ak).trans ax)))))));have e2:bW w5 (w+1+1) 2 (bR 0):=(sV _ _ ak).trans ((vW _ _ _ _ ak).trans ((vW _ _ _ _ v2).trans ((vT _ _ ak).trans ((vW _ _ _ _ x2).trans ((hc3 _ _ y2).trans ((hc2 _ _ z2).trans ((hc1 _ _ ak).trans ax)))))));have e3:bW w5 (w+1+1) 3 (bQ none 0 0):=(sV _ _ ak).trans ((vW _ _ _ _ ak).trans ((vW _ _ _ _ v2).trans ((vT _ _ ak).trans ((vW _ _ _ _ x2).trans ((hc3 _ _ y2).trans ((hc2 _ _ z2).trans ((hc1 _ _ ak).trans ax)))))));have k1:cZ M w5 sa Aa na (qi s (dJ p / G)):=HAA.o.bU HG5.o;have k2:cZ M w5 sb Ab nb (qi 1 (dJ q / G)):=HAB.o;have i1:=(((((k1.b_ (i:=0) Mb.o (show w.heap.size+1+1<w3.heap.size+1 by omega) (bR sa)).b_ (i:=1) Mb.o (show w.heap.size+1+1<w3.heap.size+1 by omega) (bQ Aa na ca)).b_ (i:=2) Mb.o (show w.heap.size+1+1<w3.heap.size+1 by omega) (bR sb)).b_ (i:=3) Mb.o (show w.heap.size+1+1<w3.heap.size+1 by omega) (bQ Ab nb cb)).alloc (.cells #[bR sb,bQ Ab nb cb] 91)).alloc (.cells #[bR st,bQ At nt ct] 91);have i2:=(((((k2.b_ (i:=0) ZZ.o (show w.heap.size+1+1<w4.heap.size+1+1 by omega) (bR sa)).b_ (i:=1) ZZ.o (show w.heap.size+1+1<w4.heap.size+1+1 by omega) (bQ Aa na ca)).b_ (i:=2) ZZ.o (show w.heap.size+1+1<w4.heap.size+1+1 by omega) (bR sb)).b_ (i:=3) ZZ.o (show w.heap.size+1+1<w4.heap.size+1+1 by omega) (bQ Ab nb cb)).alloc (.cells #[bR sb,bQ Ab nb cb] 91)).alloc (.cells #[bR st,bQ At nt ct] 91);have qU:=(((((fu.o.setCell (p:=bS (w+1+1) 0) (show w.heap.size≤w.heap.size+1+1 by omega) (bR sa)).setCell (p:=bS (w+1+1) 1) (show w.heap.size≤w.heap.size+1+1 by omega) (bQ Aa na ca)).setCell (p:=bS (w+1+1) 2) (show w.heap.size≤w.heap.size+1+1 by omega) (bR sb)).setCell (p:=bS (w+1+1) 3) (show w.heap.size≤w.heap.size+1+1 by omega) (bQ Ab nb cb)).alloc aH (.cells #[bR sb,bQ Ab nb cb] 91)).alloc aH (.cells #[bR st,bQ At nt ct] 91);have hx3:=gV.o.size;have hx4:=mm.o.size;clear hc1 hc2 hc3 vT sV jH hf2 hf3 L9 RS;have g0:((((((w5.setCell (bS (w+1+1) 0) (bR sa)).setCell (bS (w+1+1) 1) (bQ Aa na ca)).setCell (bS (w+1+1) 2) (bR sb)).setCell (bS (w+1+1) 3) (bQ Ab nb cb)).alloc (.cells #[bR sb,bQ Ab nb cb] 91)).alloc (.cells #[bR st,bQ At nt ct] 91)).cell? (bS (w+1+1) 0)=some (bR sa):=(vW _ _ _ _ aH).trans ((vW _ _ _ _ aH).trans (by simp[go_sem,e0,e1,e2,e3]));have g1:((((((w5.setCell (bS (w+1+1) 0) (bR sa)).setCell (bS (w+1+1) 1) (bQ Aa na ca)).setCell (bS (w+1+1) 2) (bR sb)).setCell (bS (w+1+1) 3) (bQ Ab nb cb)).alloc (.cells #[bR sb,bQ Ab nb cb] 91)).alloc (.cells #[bR st,bQ At nt ct] 91)).cell? (bS (w+1+1) 1)=some (bQ Aa na ca):=(vW _ _ _ _ aH).trans ((vW _ _ _ _ aH).trans (by simp[go_sem,e0,e1,e2,e3]));have g2:((((((w5.setCell (bS (w+1+1) 0) (bR sa)).setCell (bS (w+1+1) 1) (bQ Aa na ca)).setCell (bS (w+1+1) 2) (bR sb)).setCell (bS (w+1+1) 3) (bQ Ab nb cb)).alloc (.cells #[bR sb,bQ Ab nb cb] 91)).alloc (.cells #[bR st,bQ At nt ct] 91)).cell? (bS (w+1+1) 2)=some (bR sb):=(vW _ _ _ _ aH).trans ((vW _ _ _ _ aH).trans (by simp[go_sem,e0,e1,e2,e3]));have g3:((((((w5.setCell (bS (w+1+1) 0) (bR sa)).setCell (bS (w+1+1) 1) (bQ Aa na ca)).setCell (bS (w+1+1) 2) (bR sb)).setCell (bS (w+1+1) 3) (bQ Ab nb cb)).alloc (.cells #[bR sb,bQ Ab nb cb] 91)).alloc (.cells #[bR st,bQ At nt ct] 91)).cell? (bS (w+1+1) 3)=some (bQ Ab nb cb):=(vW _ _ _ _ aH).trans ((vW _ _ _ _ aH).trans (by simp[go_sem,e0,e1,e2,e3]));exact bodyPost_ret (v:= .tuple #[.agg #[bR sa,bQ Aa na ca,bR sb,bQ Ab nb cb],bR 0]) (by simp[results,results199,go_sem,g0,g1,g2,g3]) rfl ⟨sa,Aa,na,ca,sb,Ab,nb,cb,rfl,⟨i1,i2⟩,⟨Mb.o.low af,ZZ.o.low af⟩,qU⟩
end Go.Proofs.YtkfofnjfihfgkaaGreatDoor
