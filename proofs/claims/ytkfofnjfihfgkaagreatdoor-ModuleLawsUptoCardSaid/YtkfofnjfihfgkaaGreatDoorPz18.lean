/- Parts of the proof, packed (NmQ to PfP); each theorem bears its own conditions. -/
import Derived.Test.YtkfofnjfihfgkaaGreatDoorPz17
set_option linter.unusedVariables false
set_option linter.unusedSimpArgs false
set_option maxRecDepth 100000
set_option maxHeartbeats 8000000
open Go.Proofs.Tryz
open Go.Lib renaming hid → aa
theorem aan {p:Prop} (h:p:=by simp[nameAt,hx]):p:=h
theorem bD {p:Prop} (h:p:=by simpa [pI]using hn):p:=h
namespace Sh
open Kb
theorem zl {α:Type} {f:Nat→α→List fJ} {xs:List α} {l:fJ}:l∈(ix f xs).flatten↔∃ j x,xs[j]? =some x∧l∈f j x:=by
 rw[List.mem_flatten];constructor
 (·rintro⟨m,hm,hl⟩;obtain⟨j,hj,rfl⟩:=List.getElem_of_mem hm;have hj':j<xs.length:=(by rwa [lu]at hj);exact⟨j,xs[j],List.getElem?_eq_getElem hj',by rwa [FZ f xs hj']at hl⟩);rintro⟨j,x,hx,hl⟩;exact⟨f j x,List.mem_of_getElem? (i:=j) (by rw[fP,hx];rfl),hl⟩
theorem K0 {α:Type} {f:Nat→α→List fJ} {xs:List α} (t:fJ→Nat) (h:∀ j x,xs[j]? =some x→(f j x).Nodup∧∀ l∈f j x,t l=j):(ix f xs).flatten.Nodup:=by
 unfold List.Nodup;rw[List.pairwise_flatten];constructor
 (·intro m hm;obtain⟨j,hj,rfl⟩:=List.getElem_of_mem hm;have hj':j<xs.length:=(by rwa [lu]at hj);rw[FZ f xs hj'];exact(h j _ (List.getElem?_eq_getElem hj')).1);rw[List.pairwise_iff_getElem];intro i j hi hj hij x hx y hy e;have hi':i<xs.length:=(by rwa [lu]at hi);have hj':j<xs.length:=(by rwa [lu]at hj);rw[FZ f xs hi']at hx;rw[FZ f xs hj']at hy;have h1:=(h i _ (List.getElem?_eq_getElem hi')).2 x hx;have h2:=(h j _ (List.getElem?_eq_getElem hj')).2 y hy;rw[e]at h1;omega
theorem Wj {α:Type} {f:Nat→α→List fJ} {xs:List α} {g:fJ→Option ByteArray} {h:α→List ByteArray} (hh:∀ j x,xs[j]? =some x→(f j x).map g=(h x).map some):(ix f xs).flatten.map g=(xs.flatMap h).map some:=by
 rw[List.map_flatten,List.map_flatMap,List.flatMap_def];congr 1;have e:(ix f xs).map (List.map g)=ix (fun j x=>(f j x).map g) xs:=by
  refine List.ext_getElem? fun j=>?_;rw[List.getElem?_map,fP,fP,Option.map_map];rfl
 rw[e];exact j0 hh
theorem xH {f:Nat→fJ} (hf:∀ a b,f a=f b→a=b) (n:Nat):((List.range n).map f).Nodup:=by
 unfold List.Nodup;rw[List.pairwise_map];exact List.nodup_range.imp fun h e=>h (hf _ _ e)
theorem jL {a b:List fJ} (ha:a.Nodup) (hb:b.Nodup) (h:∀ x∈a,x∈b→False):(a++b).Nodup:=List.nodup_append.2 ⟨ha,hb,fun x hx y hy e=>h x hx (e▸hy)⟩
theorem lA {α:Type} (xs:List α) (f:Nat→fJ) (g:fJ→Option ByteArray) (h:α→ByteArray) (hg:∀ j,g (f j)=xs[j]?.map h):((List.range xs.length).map f).map g=(xs.map h).map some:=by
 refine List.ext_getElem? fun j=>?_;simp only[List.getElem?_map];by_cases hj:j<xs.length
 (·rw[List.getElem?_range hj];simp[hg,List.getElem?_eq_getElem hj]);rw[List.getElem?_eq_none bB,List.getElem?_eq_none bB];rfl
def rD:fJ→Nat
 | .imp _=>0| .inp _=>1| .tab _=>2| .fn _=>3| .cell _=>4| .port _=>5| .store _=>6| .sin _ _ _=>7| .qd _ _ _=>8| .kG _ _ _=>9| .jR _ _=>10
def recL:fJ→Nat
 | .sin r _ _=>r| .qd r _ _=>r| .kG r _ _=>r| .jR r _=>r|_=>0
def Wk:fJ→Nat
 | .sin _ k _=>k| .qd _ k _=>k| .kG _ k _=>k| .jR _ k=>k|_=>0
theorem xI {r k:Nat} {y:dV} {l:fJ} (h:l∈jd r k y):recL l=r∧Wk l=k∧7≤rD l:=by
 unfold jd at h;simp only[List.mem_append,List.mem_map]at h;rcases h with((⟨a,_,rfl⟩|⟨a,_,rfl⟩)|⟨a,_,rfl⟩)|h
 (·exact⟨rfl,rfl,by simp[rD]⟩)
 (·exact⟨rfl,rfl,by simp[rD]⟩)
 (·exact⟨rfl,rfl,by simp[rD]⟩);split at h
 (·simp at h;subst h;exact⟨rfl,rfl,by simp[rD]⟩);simp at h
theorem K1 (r k:Nat) (y:dV):(jd r k y).Nodup:=by
 unfold jd;refine jL (jL (jL (xH (fun a b e=>by injection e) _) (xH (fun a b e=>by injection e) _) ?_) (xH (fun a b e=>by injection e) _) ?_) ?_ ?_
 (·intro x h1 h2;simp only[List.mem_map]at h1 h2;obtain⟨a,_,rfl⟩:=h1;obtain⟨b,_,e⟩:=h2;cases e)
 (·intro x h1 h2;simp only[List.mem_append,List.mem_map]at h1 h2;obtain⟨b,_,rfl⟩:=h2;rcases h1 with⟨a,_,e⟩|⟨a,_,e⟩<;>cases e)
 (·split<;>simp);intro x h1 h2;split at h2
 (·simp at h2;subst h2;simp only[List.mem_append,List.mem_map]at h1;rcases h1 with(⟨a,_,e⟩|⟨a,_,e⟩)|⟨a,_,e⟩<;>cases e);simp at h2
theorem Di {r:Nat} {x:cw} {l:fJ} (h:l∈sP r x):recL l=r∧7≤rD l:=by
 obtain⟨k,y,_,h⟩:=zl.1 h;exact⟨(xI h).1,(xI h).2.2⟩
theorem K2 (s:bY):(sQ s).Nodup:=K0 recL fun r x _=>⟨K0 Wk fun k y _=>⟨K1 r k y,fun l h=>(xI h).2.1⟩,fun l h=>(Di h).1⟩
theorem K3 (s:bY):(gF s).Nodup:=by
 have far:∀ {f g:Nat→fJ} {n m:Nat},(∀ a b,f a≠g b)→∀ x,x∈(List.range n).map f→x∈(List.range m).map g→False:=fun hfg x h1 h2=>by
  obtain⟨a,_,e1⟩:=List.mem_map.1 h1;obtain⟨b,_,e2⟩:=List.mem_map.1 h2;exact hfg a b (e1.trans e2.symm)
 have two:∀ {a b c:List fJ},(∀ x,x∈a→x∈c→False)→(∀ x,x∈b→x∈c→False)→∀ x,x∈a++b→x∈c→False:=fun h1 h2 x hx hc=>by
  rcases List.mem_append.1 hx with h|h
  (·exact h1 x h hc);exact h2 x h hc
 have n1:∀ {f:Nat→fJ} {n:Nat},(∀ a b,f a=f b→a=b)→((List.range n).map f).Nodup:=fun hf=>xH hf _;unfold gF;refine jL (jL (jL (jL (jL (jL (n1 (fun a b e=>by injection e)) (n1 (fun a b e=>by injection e)) ?_) (n1 (fun a b e=>by injection e)) ?_) (n1 (fun a b e=>by injection e)) ?_) (n1 (fun a b e=>by injection e)) ?_) (n1 (fun a b e=>by injection e)) ?_) (n1 (fun a b e=>by injection e)) ?_
 (·exact far (fun a b e=>by cases e))
 (·exact two (far (fun a b e=>by cases e)) (far (fun a b e=>by cases e)))
 (·exact two (two (far (fun a b e=>by cases e)) (far (fun a b e=>by cases e))) (far (fun a b e=>by cases e)))
 (·exact two (two (two (far (fun a b e=>by cases e)) (far (fun a b e=>by cases e))) (far (fun a b e=>by cases e))) (far (fun a b e=>by cases e)))
 (·exact two (two (two (two (far (fun a b e=>by cases e)) (far (fun a b e=>by cases e))) (far (fun a b e=>by cases e))) (far (fun a b e=>by cases e))) (far (fun a b e=>by cases e)));exact two (two (two (two (two (far (fun a b e=>by cases e)) (far (fun a b e=>by cases e))) (far (fun a b e=>by cases e))) (far (fun a b e=>by cases e))) (far (fun a b e=>by cases e))) (far (fun a b e=>by cases e))
theorem vM {s:bY} {l:fJ} (h:l∈gF s):rD l<7:=by
 simp only[gF,List.mem_append,List.mem_map]at h;rcases h with(((((⟨a,_,rfl⟩|⟨a,_,rfl⟩)|⟨a,_,rfl⟩)|⟨a,_,rfl⟩)|⟨a,_,rfl⟩)|⟨a,_,rfl⟩)|⟨a,_,rfl⟩<;>simp[rD]
def j3 (s:bY):List fJ:=gF s++sQ s
theorem NG (s:bY):(j3 s).Nodup:=jL (K3 s) (K2 s) fun x h1 h2=>by
 have h3:=vM h1;obtain⟨r,y,_,h⟩:=zl.1 h2;have:=(Di h).2;omega
theorem sG (s:bY):(j3 s).map (nameAt s)=(bZ s++usedNames s).map some:=by
 unfold j3 bZ usedNames gF sQ;simp only[List.map_append];refine congr (congrArg _ ?_) ?_
 (·simp only[lA s.imports .imp (nameAt s) (·.name) (fun _=>rfl),lA s.inputs .inp (nameAt s) (·.name) (fun _=>rfl),lA s.tables .tab (nameAt s) (·.name) (fun _=>rfl),lA s.funcs .fn (nameAt s) (·.name) (fun _=>rfl),lA s.cells .cell (nameAt s) (·.name) (fun _=>rfl),lA s.b9 .port (nameAt s) (·.name) (fun _=>rfl),lA s.stores .store (nameAt s) (·.name) (fun _=>rfl)]);refine Wj fun r x hx=>Wj fun k y hy=>?_;unfold jd kj;have h:∀ (f:Nat→fJ) (zs:List ByteArray),(∀ n,nameAt s (f n)=zs[n]?)→((List.range zs.length).map f).map (nameAt s)=zs.map some:=fun f zs hf=>by
  have:=lA zs f (nameAt s) id (fun n=>by rw[hf];simp);simpa using this
 simp only[List.map_append];rw[h _ y.inp (fun n=>by simp[nameAt,hx,hy]),h _ y.o (fun n=>by simp[nameAt,hx,hy]),h _ y.cells (fun n=>by simp[nameAt,hx,hy])];split<;>simp[nameAt,hx,hy]
def mU (p:ByteArray) (s:bY):bY:=
 ⟨s.name,s.imports.map fun x=>{x with name:=er p x.name},s.inputs.map fun x=>{x with name:=er p x.name},s.tables.map fun x=>{x with name:=er p x.name},
  s.funcs.map fun f=>{f with name:=er p f.name},s.cells.map fun c=>{c with name:=er p c.name},
  s.b9.map fun x=>{x with name:=er p x.name},s.stores.map fun x=>{x with name:=er p x.name},s.bX.map fun r=>⟨r.kind,r.steps.map (tv p)⟩⟩
def xJ (p:ByteArray) (L:List fJ):Ren:=fun l n=>if l∈L then er p n else n
theorem qL {f:Nat→fJ} {j n:Nat} (h:j<n):f j∈(List.range n).map f:=List.mem_map.2 ⟨j,List.mem_range.2 h,rfl⟩
theorem Wl (p:ByteArray) (s:bY):lz (xJ p (j3 s)) s=mU p s:=by
 have lt:∀ {α:Type} {xs:List α} {j:Nat} {x:α},xs[j]? =some x→j<xs.length:=fun h=>(List.getElem?_eq_some_iff.1 h).1;(have K:∀ {l:fJ} {n:ByteArray},l∈j3 s→xJ p (j3 s) l n=er p n:=fun h=>by unfold xJ;rw[if_pos h]);have I:∀ {l:fJ},l∈gF s→l∈j3 s:=fun h=>List.mem_append_left _ h;simp only[lz,mU,bY.mk.injEq,true_and];refine⟨j0 fun j x hx=>?_,j0 fun j x hx=>?_,j0 fun j x hx=>?_,j0 fun j x hx=>?_,j0 fun j x hx=>?_,j0 fun j x hx=>?_,j0 fun j x hx=>?_,j0 fun r x hx=>?_⟩
 (·rw[K (I (by unfold gF;simp only[List.mem_append];exact .inl (.inl (.inl (.inl (.inl (.inl (qL (lt hx)))))))))])
 (·rw[K (I (by unfold gF;simp only[List.mem_append];exact .inl (.inl (.inl (.inl (.inl (.inr (qL (lt hx)))))))))])
 (·rw[K (I (by unfold gF;simp only[List.mem_append];exact .inl (.inl (.inl (.inl (.inr (qL (lt hx))))))))])
 (·rw[K (I (by unfold gF;simp only[List.mem_append];exact .inl (.inl (.inl (.inr (qL (lt hx)))))))])
 (·rw[K (I (by unfold gF;simp only[List.mem_append];exact .inl (.inl (.inr (qL (lt hx))))))])
 (·rw[K (I (by unfold gF;simp only[List.mem_append];exact .inl (.inr (qL (lt hx)))))])
 (·rw[K (I (by unfold gF;simp only[List.mem_append];exact .inr (qL (lt hx))))]);simp only[zk,cw.mk.injEq,true_and];refine j0 fun k y hy=>?_;have U:∀ {l:fJ},l∈jd r k y→l∈j3 s:=fun h=>List.mem_append_right _ (zl.2 ⟨r,x,hx,zl.2 ⟨k,y,hy,h⟩⟩);have e4:xJ p (j3 s) (.jR r k) y.name=if gz y then er p y.name else y.name:=by
  by_cases q:gz y=true
  (·rw[if_pos q,K (U (by unfold jd;simp[q]))]);rw[if_neg q];unfold xJ;rw[if_neg];intro h;rcases List.mem_append.1 h with h|h
  (·have:=vM h;simp[rD]at this);obtain⟨r',x',hx',h⟩:=zl.1 h;have e1:=(Di h).1;obtain⟨k',y',hy',h⟩:=zl.1 h;have e2:=(xI h).2.1;simp only[recL,Wk]at e1 e2;subst e1 e2;rw[hx]at hx';injection hx' with hx';subst hx';rw[hy]at hy';injection hy' with hy';subst hy';unfold jd at h;simp[q]at h
 simp only[sD,tv,dV.mk.injEq,true_and,and_true];exact⟨j0 fun n z hz=>K (U (by unfold jd;simp only[List.mem_append];exact .inl (.inl (.inl (qL (lt hz)))))),j0 fun n z hz=>K (U (by unfold jd;simp only[List.mem_append];exact .inl (.inl (.inr (qL (lt hz)))))),e4,j0 fun n z hz=>K (U (by unfold jd;simp only[List.mem_append];exact .inl (.inr (qL (lt hz)))))⟩
theorem SL {F G:Ren} {s:bY} (h:∀ l n,nameAt s l=some n→F l n=G l n):lz F s=lz G s:=by
 simp only[lz,bY.mk.injEq,true_and];refine⟨cE fun j x hx=>by rw[h (.imp j) x.name aan],cE fun j x hx=>by rw[h (.inp j) x.name aan],cE fun j x hx=>by rw[h (.tab j) x.name aan],cE fun j x hx=>by rw[h (.fn j) x.name aan],
  cE fun j x hx=>by rw[h (.cell j) x.name aan],cE fun j x hx=>by rw[h (.port j) x.name aan],cE fun j x hx=>by rw[h (.store j) x.name aan],cE fun r x hx=>?_⟩
 simp only[zk,cw.mk.injEq,true_and];refine cE fun k y hy=>?_;simp only[sD,dV.mk.injEq,true_and,and_true];exact⟨cE fun n z hz=>h (.sin r k n) z (by simp[nameAt,hx,hy,hz]),cE fun n z hz=>h (.qd r k n) z (by simp[nameAt,hx,hy,hz]),h (.jR r k) y.name (by simp[nameAt,hx,hy]),cE fun n z hz=>h (.kG r k n) z (by simp[nameAt,hx,hy,hz])⟩
theorem Wm {p:ByteArray} {s:bY} {k:Nat} {l:fJ} {n:ByteArray} (hl:(j3 s)[k]? =some l) (hn:nameAt s l=some n):nameAt (lz (xJ p ((j3 s).take k)) s) l=some n∧Dh (lz (xJ p ((j3 s).take k)) s) (er p n) l=lz (xJ p ((j3 s).take (k+1))) s:=by
 have hk:=(List.getElem?_eq_some_iff.1 hl).1;have hlk:(j3 s)[k]=l:=(List.getElem?_eq_some_iff.1 hl).2;have hne:l∉(j3 s).take k:=fun h=>by
  obtain⟨i,hi,e⟩:=List.getElem_of_mem h;have hik:i<k:=(by simp at hi;omega);rw[List.getElem_take]at e;have:=(List.pairwise_iff_getElem.1 (NG s)) i k af hk hik;exact this (by rw[e,hlk])
 refine⟨by rw[NF,hn];simp[xJ,hne],?_⟩;rw[Wi];have UH:(j3 s).take (k+1)=(j3 s).take k++[l]:=(by rw[List.take_add_one,hl];rfl);refine SL fun l' n' h=>?_;unfold fF xJ;rw[UH];by_cases e:l'=l
 (·subst e;have:n'=n:=Option.some.inj (h.symm.trans hn);subst this;simp);rw[if_neg e];simp[e]
end Sh
namespace Go.Proofs.YtkfofnjfihfgkaaGreatDoor
open Go Go.RowKit Go.Proofs Sh Kb
section
section
variable {α:Type} {R:Rel α} {T B g n c j i b0:Nat} {U S:Nat→Prop} {w w':World} {xs:List α} {y:α} {u:Value} {v:Value} {E:Nat→List Value→Prop}
theorem rE (hb:¬S b0):cA S w (w.setCell (bS b0 i) u):=lK (cA.refl _ _) hb
theorem mb.cells {k:Nat} (h:mb k T B w (bQ (bS g 0) n c) n E):mb k T B w (bQ (bS g 0) n c) n fun j cs=>E j cs∧∀ i u,cs[i]? =some u→bW w g (j*k+i) u:=by
 obtain⟨css,h1,h2,h3,h4⟩:=h;refine⟨css,h1,h2,h3,fun j cs hj=>⟨h4 j cs hj,fun i u hu=>?_⟩⟩;have PW:j<css.length:=(List.getElem?_eq_some_iff.1 hj).1;obtain⟨g',c',e,hg1,hg2⟩:=h2.form af;injection e with e1 _ _;injection e1 with e1;injection e1 with e1;subst e1;have hcs:=h3 _ (List.mem_of_getElem? hj);(have hi:i<k:=by have:=(List.getElem?_eq_some_iff.1 hu).1;omega);have hlt:j*k+i<n*k:=by
  have:(j+1)*k≤n*k:=Nat.mul_le_mul_right k af;rw[Nat.add_mul]at this;omega
 rw[h2.cellAt _ hlt];exact jY h3 j i _ u hj hu
theorem dy.put1 (h:dy R T B w U (bQ (bS g 0) n c) xs) (hn:n=xs.length) (hj:j<xs.length) (hi:i<R.k) (hy:∀ (S:Nat→Prop) cs,R.is w S cs xs[j]→R.is w S (cs.set i u) y):dy R T B (w.setCell (bS g (j*R.k+i)) u) U (bQ (bS g 0) n c) (xs.set j y):=by
 subst hn;obtain⟨t,hU,hr⟩:=h;refine⟨t,hU,?_⟩;rw[List.length_set];have h1:=hr.put (E':=fun j' cs=>∀ x,(xs.set j y)[j']? =some x→R.is w (fun b=>U b∧some b≠(bQ (bS g 0) xs c).ownBlock∧t b=j') cs x) hj hi u (fun cs _ he x hx=>by
  rw[List.getElem?_set_self hj]at hx;injection hx with hx;subst hx;exact hy _ _ (he _ (List.getElem?_eq_getElem hj))) (fun j' cs hjj _ he x hx=>by
  rw[List.getElem?_set_ne (fun e=>hjj e.symm)]at hx;exact he x hx)
 exact h1.move (fun _ _=>rfl) fun j' cs _ he x hx=>R.keep (he x hx) (rE fun q=>q.2.1 rfl)
theorem dy.deep (h:dy R T B w U (bQ (bS g 0) n c) xs) (hn:n=xs.length) (hk:0<R.k) (hj:j<xs.length) (hy:∀ (S:Nat→Prop) cs,R.is w S cs xs[j]→(∀ i u,cs[i]? =some u→bW w g (j*R.k+i) u)→S b0∧R.is (w.setCell (bS b0 i) u) S cs y):U b0∧dy R T B (w.setCell (bS b0 i) u) U (bQ (bS g 0) n c) (xs.set j y):=by
 subst hn;obtain⟨t,hU,hr⟩:=h;have hr:=hr.cells;obtain⟨_,_,cs0,_,_,_,_,hE,_⟩:=hr.get hk hj;have hb0:=(hy _ cs0 (hE.1 _ (List.getElem?_eq_getElem hj)) hE.2).1;refine⟨hb0.1,t,hU,?_⟩;rw[List.length_set];refine hr.move (fun g' hg'=>Below.heap_setCell w (bS b0 i) u g' (fun e=>hb0.2.1 (by rw[hg'];exact congrArg some e.symm))) fun j' cs hjn he x hx=>?_;by_cases q:j'=j
 (·subst q;rw[List.getElem?_set_self hj]at hx;injection hx with hx;subst hx;exact(hy _ cs (he.1 _ (List.getElem?_eq_getElem hj)) he.2).2);rw[List.getElem?_set_ne (fun e=>q e.symm)]at hx;exact R.keep (he.1 x hx) (rE fun r=>q (r.2.2.symm.trans hb0.2.2))
theorem dy.row {A:Option Addr} {b o:Nat} (h:dy R T B w U (bQ A n c) xs) (hA:A=bS b o) (hk:0<R.k) (hj:j<xs.length):A=bS b 0∧o=0:=by
 subst hA;obtain⟨g,c',cs,hv,_⟩:=h.get hk hj;injection hv with e1 _ _;injection e1 with e1;injection e1 with e1 e2;subst e2;exact⟨rfl,rfl⟩
end
def At (W:World) (a:dU):fJ→Addr→Prop
 | .imp j,q=>∃ b o,a.A1=some ⟨b,o,none⟩∧q=⟨b,o+j*6,none⟩
 | .inp j,q=>∃ b o,a.A2=some ⟨b,o,none⟩∧q=⟨b,o+j*3,none⟩
 | .tab j,q=>∃ b o,a.A3=some ⟨b,o,none⟩∧q=⟨b,o+j*3,none⟩
 | .fn j,q=>∃ b o,a.A4=some ⟨b,o,none⟩∧q=⟨b,o+j*7,none⟩
 | .cell j,q=>∃ b o,a.A5=some ⟨b,o,none⟩∧q=⟨b,o+j*7,none⟩
 | .port j,q=>∃ b o,a.A6=some ⟨b,o,none⟩∧q=⟨b,o+j*3,none⟩
 | .store j,q=>∃ b o,a.A7=some ⟨b,o,none⟩∧q=⟨b,o+j*3,none⟩
 | .sin r k n,q=>∃ b o b1 o1 l1 c1 b2 o2 l2 c2,a.A8=some ⟨b,o,none⟩∧bW W b (o+r*2+1) (.slice (some ⟨b1,o1,none⟩) l1 c1)∧bW W b1 (o1+k*6+1) (.slice (some ⟨b2,o2,none⟩) l2 c2)∧q=⟨b2,o2+n,none⟩
 | .qd r k n,q=>∃ b o b1 o1 l1 c1 b2 o2 l2 c2,a.A8=some ⟨b,o,none⟩∧bW W b (o+r*2+1) (.slice (some ⟨b1,o1,none⟩) l1 c1)∧bW W b1 (o1+k*6+2) (.slice (some ⟨b2,o2,none⟩) l2 c2)∧q=⟨b2,o2+n,none⟩
 | .kG r k n,q=>∃ b o b1 o1 l1 c1 b2 o2 l2 c2,a.A8=some ⟨b,o,none⟩∧bW W b (o+r*2+1) (.slice (some ⟨b1,o1,none⟩) l1 c1)∧bW W b1 (o1+k*6+4) (.slice (some ⟨b2,o2,none⟩) l2 c2)∧q=⟨b2,o2+n,none⟩
 | .jR r k,q=>∃ b o b1 o1 l1 c1,a.A8=some ⟨b,o,none⟩∧bW W b (o+r*2+1) (.slice (some ⟨b1,o1,none⟩) l1 c1)∧q=⟨b1,o1+k*6+3,none⟩
section
variable {B b0:Nat} {w w':World} {a:dU} {s:bY} {tag:Tag}
def Uk (tag:Tag) (B i:Nat) (w w':World):Prop:=∀ i',i'≠i→i'<10→cA (UT tag B i') w w'
theorem uG {i o:Nat} {u:Value} (h:UT tag B i b0) (hi:i<10):Uk tag B i w (w.setCell (bS b0 o) u):=fun i' hne h10=>rE fun q=>by
 have h1:=h.2;have h2:=q.2;omega
theorem eO.w1 {xs:List eL} (h:eO B w a s tag) (K:Uk tag B 1 w w') (x:dy gN 143 B w' (UT tag B 1) (bQ a.A1 xs a.c1) xs):eO B w' a {s with imports:=xs} tag:=
 ⟨x,h.i2.keep (K 2 ag ag),h.i3.keep (K 3 ag ag),h.i4.keep (K 4 ag ag),h.i5.keep (K 5 ag ag),h.i6.keep (K 6 ag ag),h.i7.keep (K 7 ag ag),h.i8.keep (K 8 ag ag)⟩
theorem eO.w2 {xs:List gR} (h:eO B w a s tag) (K:Uk tag B 2 w w') (x:dy jg 125 B w' (UT tag B 2) (bQ a.A2 xs a.c2) xs):eO B w' a {s with inputs:=xs} tag:=
 ⟨h.i1.keep (K 1 ag ag),x,h.i3.keep (K 3 ag ag),h.i4.keep (K 4 ag ag),h.i5.keep (K 5 ag ag),h.i6.keep (K 6 ag ag),h.i7.keep (K 7 ag ag),h.i8.keep (K 8 ag ag)⟩
theorem eO.w3 {xs:List eB} (h:eO B w a s tag) (K:Uk tag B 3 w w') (x:dy (vw 153 B) 106 B w' (UT tag B 3) (bQ a.A3 xs a.c3) xs):eO B w' a {s with tables:=xs} tag:=
 ⟨h.i1.keep (K 1 ag ag),h.i2.keep (K 2 ag ag),x,h.i4.keep (K 4 ag ag),h.i5.keep (K 5 ag ag),h.i6.keep (K 6 ag ag),h.i7.keep (K 7 ag ag),h.i8.keep (K 8 ag ag)⟩
theorem eO.w4 {xs:List eU} (h:eO B w a s tag) (K:Uk tag B 4 w w') (x:dy (uT 78 B) 76 B w' (UT tag B 4) (bQ a.A4 xs a.c4) xs):eO B w' a {s with funcs:=xs} tag:=
 ⟨h.i1.keep (K 1 ag ag),h.i2.keep (K 2 ag ag),h.i3.keep (K 3 ag ag),x,h.i5.keep (K 5 ag ag),h.i6.keep (K 6 ag ag),h.i7.keep (K 7 ag ag),h.i8.keep (K 8 ag ag)⟩
theorem eO.w5 {xs:List cL} (h:eO B w a s tag) (K:Uk tag B 5 w w') (x:dy dS 56 B w' (UT tag B 5) (bQ a.A5 xs a.c5) xs):eO B w' a {s with cells:=xs} tag:=
 ⟨h.i1.keep (K 1 ag ag),h.i2.keep (K 2 ag ag),h.i3.keep (K 3 ag ag),h.i4.keep (K 4 ag ag),x,h.i6.keep (K 6 ag ag),h.i7.keep (K 7 ag ag),h.i8.keep (K 8 ag ag)⟩
theorem eO.w6 {xs:List kO} (h:eO B w a s tag) (K:Uk tag B 6 w w') (x:dy lH 127 B w' (UT tag B 6) (bQ a.A6 xs a.c6) xs):eO B w' a {s with b9:=xs} tag:=
 ⟨h.i1.keep (K 1 ag ag),h.i2.keep (K 2 ag ag),h.i3.keep (K 3 ag ag),h.i4.keep (K 4 ag ag),h.i5.keep (K 5 ag ag),x,h.i7.keep (K 7 ag ag),h.i8.keep (K 8 ag ag)⟩
theorem eO.w7 {xs:List jz} (h:eO B w a s tag) (K:Uk tag B 7 w w') (x:dy jh 136 B w' (UT tag B 7) (bQ a.A7 xs a.c7) xs):eO B w' a {s with stores:=xs} tag:=
 ⟨h.i1.keep (K 1 ag ag),h.i2.keep (K 2 ag ag),h.i3.keep (K 3 ag ag),h.i4.keep (K 4 ag ag),h.i5.keep (K 5 ag ag),h.i6.keep (K 6 ag ag),x,h.i8.keep (K 8 ag ag)⟩
theorem eO.w8 {xs:List cw} (h:eO B w a s tag) (K:Uk tag B 8 w w') (x:dy (ko 9 65 B) 62 B w' (UT tag B 8) (bQ a.A8 xs a.c8) xs):eO B w' a {s with bX:=xs} tag:=
 ⟨h.i1.keep (K 1 ag ag),h.i2.keep (K 2 ag ag),h.i3.keep (K 3 ag ag),h.i4.keep (K 4 ag ag),h.i5.keep (K 5 ag ag),h.i6.keep (K 6 ag ag),h.i7.keep (K 7 ag ag),x⟩
def NameP (B:Nat) (w:World) (a:dU) (s:bY) (tag:Tag) (l:fJ) (q:Addr) (n:ByteArray):Prop:=
 w.cell? q=some (bV n)∧w.frozen? q=false∧q.block<w.heap.size∧(∃ i,i<10∧UT tag B i q.block)∧∀ v,eO B (w.setCell q (bV v)) a (Dh s v l) tag
theorem kA {α:Type} {xs:List α} {j:Nat} (h:j<xs.length) (f:α→α):xs.modify j f=xs.set j (f xs[j]):=by
 refine List.ext_getElem? fun i=>?_;rw[List.getElem?_modify];by_cases e:j=i
 (·subst e;rw[List.getElem?_set_self h,List.getElem?_eq_getElem h];simp);rw[List.getElem?_set_ne e];cases xs[i]? <;>simp[e]
theorem nG {α:Type} {R:Rel α} {T i b o j n c:Nat} {A:Option Addr} {xs:List α} {nm:ByteArray} {q:Addr} (hi:i<10) (hk:0<R.k) (x:dy R T B w (UT tag B i) (bQ A n c) xs) (hn:n=xs.length) (f:ByteArray→α→α) (g:α→ByteArray) (hA:A=bS b o) (hq:q=bS b (o+j*R.k)) (hnm:xs[j]?.map g=some nm) (hg:∀ (S:Nat→Prop) cs x,R.is w S cs x→cs[0]? =some (bV (g x))) (hf:∀ (S:Nat→Prop) cs x v,R.is w S cs x→R.is w S (cs.set 0 (bV v)) (f v x)):w.cell? q=some (bV nm)∧w.frozen? q=false∧q.block<w.heap.size∧(∃ i,i<10∧UT tag B i q.block)∧∀ v,Uk tag B i w (w.setCell q (bV v))∧dy R T B (w.setCell q (bV v)) (UT tag B i) (bQ A (xs.modify j (f v)).length c) (xs.modify j (f v)):=by
 subst hn;cases hj:xs[j]? with
 |none=>rw[hj]at hnm;cases hnm
 |some z=>
  rw[hj]at hnm;have hz:g z=nm:=(by simpa using hnm);obtain⟨hjl,QV⟩:=List.getElem?_eq_some_iff.1 hj;obtain⟨QW,ho⟩:=x.row hA hk hjl;subst ho QW;obtain⟨g',c',cs,hv,hU,hlt,ep,hc,hfz⟩:=x.get hk hjl;injection hv with e1 _ _;injection e1 with e1;injection e1 with e1;subst e1;have EK:q=bS b (j*R.k+0):=(by rw[hq];simp);subst EK;refine⟨?_,hfz _,hlt,⟨i,hi,hU⟩,fun v=>⟨uG hU hi,?_⟩⟩
  (·rw[hc 0 _ (hg _ _ _ ep),QV,hz]);rw[kA hjl,List.length_set];exact x.put1 rfl hjl hk fun S cs h=>hf S cs _ v h
theorem Hv {T o n c j:Nat} {U:Nat→Prop} {A:Option Addr} {xs:List ByteArray} {z:ByteArray} (h:dy dw T B w U (bQ A n c) xs) (hn:n=xs.length) (hA:A=bS b0 o) (hj:xs[j]? =some z):o=0∧U b0∧b0<w.heap.size∧bW w b0 j (bV z)∧w.frozen? (bS b0 j)=false∧∀ v,dy dw T B (w.setCell (bS b0 j) (bV v)) U (bQ A (xs.modify j fun _=>v).length c) (xs.modify j fun _=>v):=by
 subst hn;obtain⟨hjl,QV⟩:=List.getElem?_eq_some_iff.1 hj;obtain⟨QW,ho⟩:=h.row hA (by decide:0<dw.k) hjl;subst ho QW;obtain⟨g',c',cs,hv,hU,hlt,ep,hc,hfz⟩:=h.get (by decide:0<dw.k) hjl;injection hv with e1 _ _;injection e1 with e1;injection e1 with e1;subst e1;have hcs:cs=[bV xs[j]]:=ep;(have e:(bS b0 j:Addr)=bS b0 (j*dw.k+0):=by show _=(bS b0 (j*1+0):Addr);simp);refine⟨rfl,hU,hlt,?_,hfz _,fun v=>?_⟩
 (·rw[e,hc 0 _ (by rw[hcs];rfl),QV]);rw[kA hjl,List.length_set,e];exact h.put1 rfl hjl (by decide:0<dw.k) fun S cs hs=>by
  have hs':cs=[bV xs[j]]:=hs;subst hs';rfl
def xK (w:World) (b i:Nat) (n:ByteArray):Prop:=b<w.heap.size∧bW w b i (bV n)∧w.frozen? (bS b i)=false
section
variable {TS T b1 o1 l1 c1 b2 o2 l2 c2 k n m c:Nat} {S:Nat→Prop} {xs:List dV} {z:dV} {nm:ByteArray}
def pI (m:Nat) (y:dV):List ByteArray:=if m=1 then y.inp else if m=2 then y.o else y.cells
def qE (m n:Nat) (v:ByteArray) (y:dV):dV:=if m=1 then {y with inp:=y.inp.modify n fun _=>v}else if m=2 then {y with o:=y.o.modify n fun _=>v}else {y with cells:=y.cells.modify n fun _=>v}
theorem F0 (hm:m=1∨m=2∨m=4) {cs:List Value} (h:(lJ T B).is w S cs z) (hc:∀ i u,cs[i]? =some u→bW w b1 (k*6+i) u) (h2:bW w b1 (k*6+m) (bQ (bS b2 o2) l2 c2)) (hn:(pI m z)[n]? =some nm):S b2∧o2=0∧xK w b2 n nm∧∀ v,(lJ T B).is (w.setCell (bS b2 n) (bV v)) S cs (qE m n v z):=by
 obtain⟨A1,d1,A2,d2,A3,d3,t,e,k1,k2,k3⟩:=h;subst e;have far:∀ {i j:Nat} {v:Value},(S b2∧t b2=i)→j≠i→cA (fun b=>S b∧t b=j) w (w.setCell (bS b2 n) v):=fun h1 hne=>rE fun q=>hne (q.2.symm.trans h1.2);rcases hm with rfl|rfl|rfl
 ·have e1:=(hc 1 _ rfl).symm.trans h2;injection e1 with e1;injection e1 with e1 _ _;obtain⟨p1,p2,p3,p4,p5,p6⟩:=Hv k1 rfl e1 (j:=n) (z:=nm) bD;refine⟨p2.1,p1,⟨p3,p4,p5⟩,fun v=>⟨A1,d1,A2,d2,A3,d3,t,by simp[qE],?_,?_,?_⟩⟩
  (·exact p6 v)
  (·exact k2.keep (far p2 ag));exact k3.keep (far p2 ag)
 ·have e1:=(hc 2 _ rfl).symm.trans h2;injection e1 with e1;injection e1 with e1 _ _;obtain⟨p1,p2,p3,p4,p5,p6⟩:=Hv k2 rfl e1 (j:=n) (z:=nm) bD;refine⟨p2.1,p1,⟨p3,p4,p5⟩,fun v=>⟨A1,d1,A2,d2,A3,d3,t,by simp[qE],?_,?_,?_⟩⟩
  (·exact k1.keep (far p2 ag))
  (·exact p6 v);exact k3.keep (far p2 ag)
 have e1:=(hc 4 _ rfl).symm.trans h2;injection e1 with e1;injection e1 with e1 _ _;obtain⟨p1,p2,p3,p4,p5,p6⟩:=Hv k3 rfl e1 (j:=n) (z:=nm) bD;refine⟨p2.1,p1,⟨p3,p4,p5⟩,fun v=>⟨A1,d1,A2,d2,A3,d3,t,by simp[qE],?_,?_,?_⟩⟩
 (·exact k1.keep (far p2 ag))
 (·exact k2.keep (far p2 ag));exact p6 v
theorem nH (hm:m=1∨m=2∨m=4) (h:dy (lJ T B) TS B w S (bQ (bS b1 o1) xs c) xs) (hk:xs[k]? =some z) (h2:bW w b1 (o1+k*6+m) (bQ (bS b2 o2) l2 c2)) (hn:(pI m z)[n]? =some nm):S b2∧o2=0∧xK w b2 n nm∧∀ v,dy (lJ T B) TS B (w.setCell (bS b2 n) (bV v)) S (bQ (bS b1 o1) xs c) (xs.modify k (qE m n v)):=by
 obtain⟨qW,hkz⟩:=List.getElem?_eq_some_iff.1 hk;obtain⟨_,ho⟩:=h.row rfl (by show 0<6;decide:0<(lJ T B).k) qW;subst ho;obtain⟨g',c',cs,hv,hU,hlt,ep,hc,hfz⟩:=h.get (by show 0<6;decide:0<(lJ T B).k) qW;injection hv with e1 _ _;injection e1 with e1;injection e1 with e1;subst e1;rw[hkz]at ep;have Cn:bW w b1 (k*6+m) (bQ (bS b2 o2) l2 c2):=aI;obtain⟨p1,p2,p3,p4⟩:=F0 hm ep hc Cn hn;refine⟨p1,p2,p3,fun v=>?_⟩;rw[kA qW,hkz];exact(h.deep rfl (by show 0<6;decide:0<(lJ T B).k) qW fun S' cs' hs hc'=>by
  rw[hkz]at hs;obtain⟨q1,_,_,q4⟩:=F0 hm hs hc' Cn hn;exact⟨q1,q4 v⟩).2
theorem Dj (h:dy (lJ T B) TS B w S (bQ (bS b1 o1) xs c) xs) (hk:xs[k]? =some z):S b1∧o1=0∧xK w b1 (k*6+3) z.name∧∀ v,dy (lJ T B) TS B (w.setCell (bS b1 (k*6+3)) (bV v)) S (bQ (bS b1 o1) xs c) (xs.modify k fun y=>{y with name:=v}):=by
 obtain⟨qW,hkz⟩:=List.getElem?_eq_some_iff.1 hk;obtain⟨_,ho⟩:=h.row rfl (by show 0<6;decide:0<(lJ T B).k) qW;subst ho;obtain⟨g',c',cs,hv,hU,hlt,ep,hc,hfz⟩:=h.get (by show 0<6;decide:0<(lJ T B).k) qW;injection hv with e1 _ _;injection e1 with e1;injection e1 with e1;subst e1;rw[hkz]at ep;obtain⟨A1,d1,A2,d2,A3,d3,t,e,_⟩:=ep;refine⟨hU,rfl,⟨hlt,hc 3 _ bf,hfz _⟩,fun v=>?_⟩;rw[kA qW];refine h.put1 (i:=3) rfl qW (by show 3<6;decide) fun S' cs' hs=>?_;obtain⟨A1,d1,A2,d2,A3,d3,t,e,q⟩:=hs;subst e;exact⟨A1,d1,A2,d2,A3,d3,t,rfl,q⟩
end
theorem xL {b o b1 o1 l1 c1 n c r i0:Nat} {A:Option Addr} {xs:List cw} {z:cw} {nm:ByteArray} (x:dy (ko 9 65 B) 62 B w (UT tag B 8) (bQ A n c) xs) (hn:n=xs.length) (hA:A=bS b o) (hc:bW w b (o+r*2+1) (bQ (bS b1 o1) l1 c1)) (hr:xs[r]? =some z) (g:ByteArray→dV→dV) (k:Nat) (hrow:∀ (S:Nat→Prop) c1,dy (lJ 9 B) 65 B w S (bQ (bS b1 o1) z.steps c1) z.steps→S b0∧xK w b0 i0 nm∧∀ v,dy (lJ 9 B) 65 B (w.setCell (bS b0 i0) (bV v)) S (bQ (bS b1 o1) z.steps c1) (z.steps.modify k (g v))):xK w b0 i0 nm∧UT tag B 8 b0∧∀ v,dy (ko 9 65 B) 62 B (w.setCell (bS b0 i0) (bV v)) (UT tag B 8) (bQ A (xs.modify r fun x=>⟨x.kind,x.steps.modify k (g v)⟩).length c) (xs.modify r fun x=>⟨x.kind,x.steps.modify k (g v)⟩):=by
 subst hn;obtain⟨hrl,YU⟩:=List.getElem?_eq_some_iff.1 hr;obtain⟨QW,ho⟩:=x.row hA aM hrl;subst ho QW;have hc':bW w b (r*2+1) (bQ (bS b1 o1) l1 c1):=aae;have one:∀ (S:Nat→Prop) cs,(ko 9 65 B).is w S cs xs[r]→(∀ i u,cs[i]? =some u→bW w b (r*2+i) u)→S b0∧xK w b0 i0 nm∧∀ v,(ko 9 65 B).is (w.setCell (bS b0 i0) (bV v)) S cs ⟨z.kind,z.steps.modify k (g v)⟩:=fun S cs hs hcs=>by
  rw[YU]at hs;obtain⟨A',c',e,q⟩:=hs;subst e;have e1:=(hcs 1 _ rfl).symm.trans hc';injection e1 with e1;injection e1 with e1 _ _;subst e1;obtain⟨p1,p2,p3⟩:=hrow S c' q;exact⟨p1,p2,fun v=>⟨bS b1 o1,c',by simp[List.length_modify],by have h9:=p3 v;rwa [show z.steps.length=(z.steps.modify k (g v)).length by simp[List.length_modify]]at h9⟩⟩
 obtain⟨g',c',cs,hv,hU,hlt,ep,hcs,hfz⟩:=x.get aM hrl;injection hv with e1 _ _;injection e1 with e1;injection e1 with e1;subst e1;obtain⟨_,p2,_⟩:=one _ cs ep hcs;refine⟨p2,?_,fun v=>?_⟩
 (·exact(x.deep (b0:=b0) (i:=i0) (u:=bV nm) (y:=⟨z.kind,z.steps.modify k (g nm)⟩) rfl aM hrl fun S cs' hs hc2=>⟨(one S cs' hs hc2).1,(one S cs' hs hc2).2.2 nm⟩).1);rw[kA hrl,List.length_set,YU];exact(x.deep rfl aM hrl fun S cs' hs hc2=>⟨(one S cs' hs hc2).1,(one S cs' hs hc2).2.2 v⟩).2
theorem eO.name {l:fJ} {q:Addr} {n:ByteArray} (h:eO B w a s tag) (hat:At w a l q) (hn:nameAt s l=some n):NameP B w a s tag l q n:=by
 cases l with
 |imp j=>
  obtain⟨b,o,hA,hq⟩:=hat;obtain⟨p1,p2,p3,p4,p5⟩:=nG ag (by show 0<6;decide) h.i1 rfl (fun v x=>{x with name:=v}) (·.name) hA hq hn (fun S cs x e=>by rw[show cs=_ from e];rfl) (fun S cs x v e=>by rw[show cs=_ from e];rfl);exact⟨p1,p2,p3,p4,fun v=>h.w1 (p5 v).1 (p5 v).2⟩
 |inp j=>
  obtain⟨b,o,hA,hq⟩:=hat;obtain⟨p1,p2,p3,p4,p5⟩:=nG ag bK h.i2 rfl (fun v x=>{x with name:=v}) (·.name) hA hq hn (fun S cs x e=>by rw[show cs=_ from e];rfl) (fun S cs x v e=>by rw[show cs=_ from e];rfl);exact⟨p1,p2,p3,p4,fun v=>h.w2 (p5 v).1 (p5 v).2⟩
 |tab j=>
  obtain⟨b,o,hA,hq⟩:=hat;obtain⟨p1,p2,p3,p4,p5⟩:=nG ag bK h.i3 rfl (fun v x=>{x with name:=v}) (·.name) hA hq hn (fun S cs x ⟨A,c,e,_⟩=>by rw[e];rfl) (fun S cs x v ⟨A,c,e,k⟩=>⟨A,c,by rw[e];rfl,k⟩);exact⟨p1,p2,p3,p4,fun v=>h.w3 (p5 v).1 (p5 v).2⟩
 |fn j=>
  obtain⟨b,o,hA,hq⟩:=hat;obtain⟨p1,p2,p3,p4,p5⟩:=nG ag aW h.i4 rfl (fun v x=>{x with name:=v}) (·.name) hA hq hn (fun S cs x ⟨A,c,es,t,e,_⟩=>by rw[e];rfl) (fun S cs x v ⟨A,c,es,t,e,k⟩=>⟨A,c,es,t,by rw[e];rfl,k⟩);exact⟨p1,p2,p3,p4,fun v=>h.w4 (p5 v).1 (p5 v).2⟩
 |cell j=>
  obtain⟨b,o,hA,hq⟩:=hat;obtain⟨p1,p2,p3,p4,p5⟩:=nG ag aW h.i5 rfl (fun v x=>{x with name:=v}) (·.name) hA hq hn (fun S cs x ⟨es,e,_⟩=>by rw[e];rfl) (fun S cs x v ⟨es,e,k⟩=>⟨es,by rw[e];rfl,k⟩);exact⟨p1,p2,p3,p4,fun v=>h.w5 (p5 v).1 (p5 v).2⟩
 |port j=>
  obtain⟨b,o,hA,hq⟩:=hat;obtain⟨p1,p2,p3,p4,p5⟩:=nG ag bK h.i6 rfl (fun v x=>{x with name:=v}) (·.name) hA hq hn (fun S cs x e=>by rw[show cs=_ from e];rfl) (fun S cs x v e=>by rw[show cs=_ from e];rfl);exact⟨p1,p2,p3,p4,fun v=>h.w6 (p5 v).1 (p5 v).2⟩
 |store j=>
  obtain⟨b,o,hA,hq⟩:=hat;obtain⟨p1,p2,p3,p4,p5⟩:=nG ag bK h.i7 rfl (fun v x=>{x with name:=v}) (·.name) hA hq hn (fun S cs x e=>by rw[show cs=_ from e];rfl) (fun S cs x v e=>by rw[show cs=_ from e];rfl);exact⟨p1,p2,p3,p4,fun v=>h.w7 (p5 v).1 (p5 v).2⟩
 |sin r k i=>
  obtain⟨b,o,b1,o1,l1,c1,b2,o2,l2,c2,hA,h1,h2,hq⟩:=hat;simp only[nameAt]at hn;cases hr:s.bX[r]? with
  |none=>rw[hr]at hn;cases hn
  |some x=>
   rw[hr,Option.bind_some]at hn;cases hk:x.steps[k]? with
   |none=>rw[hk]at hn;cases hn
   |some y=>
    rw[hk,Option.bind_some]at hn;have ho:o2=0:=by
     obtain⟨hrl,YU⟩:=List.getElem?_eq_some_iff.1 hr;obtain⟨QW,ho⟩:=h.i8.row hA aM hrl;obtain⟨g',c',cs,hv,hU,hlt,⟨A',c'',e,hst⟩,hcs,hfz⟩:=h.i8.get aM hrl;rw[QW]at hv;injection hv with e1 _ _;injection e1 with e1;injection e1 with e1;subst e1 ho;have e2:=(hcs 1 _ bf).symm.trans (show w.cell? (bS b (r*2+1))=_ by simpa using h1);injection e2 with e2;injection e2 with e2 _ _;subst e2;rw[YU]at hst;exact(nH (m:=1) ag hst hk h2 bD).2.1
    subst ho;obtain⟨p2,p3,p4⟩:=xL (b0:=b2) (i0:=i) h.i8 rfl hA h1 hr (fun v=>qE 1 i v) k fun S c9 q=>by
     obtain⟨q1,q2,q3,q4⟩:=nH (m:=1) ag q hk h2 bD;exact⟨q1,q3,q4⟩
    have EK:q=bS b2 i:=(by rw[hq];simp);subst EK;exact⟨p2.2.1,p2.2.2,p2.1,⟨8,by decide,p3⟩,fun v=>h.w8 (uG p3 ag) (p4 v)⟩
 |qd r k i=>
  obtain⟨b,o,b1,o1,l1,c1,b2,o2,l2,c2,hA,h1,h2,hq⟩:=hat;simp only[nameAt]at hn;cases hr:s.bX[r]? with
  |none=>rw[hr]at hn;cases hn
  |some x=>
   rw[hr,Option.bind_some]at hn;cases hk:x.steps[k]? with
   |none=>rw[hk]at hn;cases hn
   |some y=>
    rw[hk,Option.bind_some]at hn;have ho:o2=0:=by
     obtain⟨hrl,YU⟩:=List.getElem?_eq_some_iff.1 hr;obtain⟨QW,ho⟩:=h.i8.row hA aM hrl;obtain⟨g',c',cs,hv,hU,hlt,⟨A',c'',e,hst⟩,hcs,hfz⟩:=h.i8.get aM hrl;rw[QW]at hv;injection hv with e1 _ _;injection e1 with e1;injection e1 with e1;subst e1 ho;have e2:=(hcs 1 _ bf).symm.trans (show w.cell? (bS b (r*2+1))=_ by simpa using h1);injection e2 with e2;injection e2 with e2 _ _;subst e2;rw[YU]at hst;exact(nH (m:=2) ag hst hk h2 bD).2.1
    subst ho;obtain⟨p2,p3,p4⟩:=xL (b0:=b2) (i0:=i) h.i8 rfl hA h1 hr (fun v=>qE 2 i v) k fun S c9 q=>by
     obtain⟨q1,q2,q3,q4⟩:=nH (m:=2) ag q hk h2 bD;exact⟨q1,q3,q4⟩
    have EK:q=bS b2 i:=(by rw[hq];simp);subst EK;exact⟨p2.2.1,p2.2.2,p2.1,⟨8,by decide,p3⟩,fun v=>h.w8 (uG p3 ag) (p4 v)⟩
 |kG r k i=>
  obtain⟨b,o,b1,o1,l1,c1,b2,o2,l2,c2,hA,h1,h2,hq⟩:=hat;simp only[nameAt]at hn;cases hr:s.bX[r]? with
  |none=>rw[hr]at hn;cases hn
  |some x=>
   rw[hr,Option.bind_some]at hn;cases hk:x.steps[k]? with
   |none=>rw[hk]at hn;cases hn
   |some y=>
    rw[hk,Option.bind_some]at hn;have ho:o2=0:=by
     obtain⟨hrl,YU⟩:=List.getElem?_eq_some_iff.1 hr;obtain⟨QW,ho⟩:=h.i8.row hA aM hrl;obtain⟨g',c',cs,hv,hU,hlt,⟨A',c'',e,hst⟩,hcs,hfz⟩:=h.i8.get aM hrl;rw[QW]at hv;injection hv with e1 _ _;injection e1 with e1;injection e1 with e1;subst e1 ho;have e2:=(hcs 1 _ bf).symm.trans (show w.cell? (bS b (r*2+1))=_ by simpa using h1);injection e2 with e2;injection e2 with e2 _ _;subst e2;rw[YU]at hst;exact(nH (m:=4) ag hst hk h2 bD).2.1
    subst ho;obtain⟨p2,p3,p4⟩:=xL (b0:=b2) (i0:=i) h.i8 rfl hA h1 hr (fun v=>qE 4 i v) k fun S c9 q=>by
     obtain⟨q1,q2,q3,q4⟩:=nH (m:=4) ag q hk h2 bD;exact⟨q1,q3,q4⟩
    have EK:q=bS b2 i:=(by rw[hq];simp);subst EK;exact⟨p2.2.1,p2.2.2,p2.1,⟨8,by decide,p3⟩,fun v=>h.w8 (uG p3 ag) (p4 v)⟩
 |jR r k=>
  obtain⟨b,o,b1,o1,l1,c1,hA,h1,hq⟩:=hat;simp only[nameAt]at hn;cases hr:s.bX[r]? with
  |none=>rw[hr]at hn;cases hn
  |some x=>
   rw[hr,Option.bind_some]at hn;cases hk:x.steps[k]? with
   |none=>rw[hk]at hn;cases hn
   |some y=>
    rw[hk]at hn;have hyn:y.name=n:=aap;subst hyn;have ho:o1=0:=by
     obtain⟨hrl,YU⟩:=List.getElem?_eq_some_iff.1 hr;obtain⟨QW,ho⟩:=h.i8.row hA aM hrl;obtain⟨g',c',cs,hv,hU,hlt,⟨A',c'',e,hst⟩,hcs,hfz⟩:=h.i8.get aM hrl;rw[QW]at hv;injection hv with e1 _ _;injection e1 with e1;injection e1 with e1;subst e1 ho;have e2:=(hcs 1 _ bf).symm.trans (show w.cell? (bS b (r*2+1))=_ by simpa using h1);injection e2 with e2;injection e2 with e2 _ _;subst e2;rw[YU]at hst;exact(Dj hst hk).2.1
    subst ho;obtain⟨p2,p3,p4⟩:=xL (b0:=b1) (i0:=k*6+3) h.i8 rfl hA h1 hr (fun v y=>{y with name:=v}) k fun S c9 q=>by
     obtain⟨q1,q2,q3,q4⟩:=Dj q hk;exact⟨q1,q3,q4⟩
    have EK:q=bS b1 (k*6+3):=(by rw[hq];simp);subst EK;exact⟨p2.2.1,p2.2.2,p2.1,⟨8,by decide,p3⟩,fun v=>h.w8 (uG p3 ag) (p4 v)⟩
end
end
def mR:Rel Addr:=jX 1 (fun a=>[.pointer (some a)]) (fun _=>rfl) (fun x v hv=>by simp at hv;subst hv;rfl)
theorem qM:Fq prog 69 72 1:= .of (.pointer none) 8 Tryz.underlying69 ai rfl ag ag
def uY (w:World) (a:dU) (ls:List fJ) (qs:List Addr):Prop:=qs.length=ls.length∧∀ (i:Nat) l q,ls[i]? =some l→qs[i]? =some q→At w a l q
structure jo (w:World) (a:dU) (ls:List fJ) (qs:List Addr) (v:Value) (wr:World):Prop where
 own:cV mR 72 w.heap.size wr Any v qs
 ok:uY w a ls qs
 bU:Below w w wr
theorem uY.more {w:World} {a:dU} {ls:List fJ} {qs:List Addr} {l:fJ} {q:Addr} (h:uY w a ls qs) (hq:At w a l q):uY w a (ls++[l]) (qs++[q]):=by
 refine⟨by simp[h.1],fun i l' q' h1 h2=>?_⟩;rcases Nat.lt_or_ge i ls.length with hi|hi
 (·rw[List.getElem?_append_left hi]at h1;rw[List.getElem?_append_left (by rw[h.1];exact hi)]at h2;exact h.2 i l' q' h1 h2);rw[List.getElem?_append_right hi]at h1;rw[List.getElem?_append_right (by rw[h.1];exact hi),h.1]at h2;(have h0:i - ls.length=0:=by have:=(List.getElem?_eq_some_iff.1 h1).1;simp at this;omega);rw[h0]at h1 h2;have e1:l=l':=aK;have e2:q=q':=aI;subst e1 e2;exact hq
theorem jo.more {w wr w4:World} {a:dU} {ls:List fJ} {qs:List Addr} {v v':Value} {l:fJ} {q:Addr} {S:Nat→Prop} (h:jo w a ls qs v wr) (o:Obj) (G:Grown mR 72 w.heap.size (wr.alloc o) S v (qs++[q]) w4 v') (hq:At w a l q):jo w a (ls++[l]) (qs++[q]) v' w4:=
 have hb:Below wr wr (wr.alloc o):=cJ o
 ⟨G.own.mono fun _ _ _=>trivial,h.ok.more hq,(h.bU.trans (hb.mono h.bU.size)).trans (G.bU (h.own.bU hb) (Nat.le_trans h.bU.size hb.size))⟩
def Dk (w:World) (a:dU) (ls:List fJ) (e:Ending) (w':World):Prop:=∃ (A:Option Addr) (c:Nat) (qs:List Addr),e= .returned (bQ A ls c)∧jo w a ls qs (bQ A ls c) w'
theorem jo.ends {w wr:World} {a:dU} {ls:List fJ} {qs:List Addr} {v:Value} (h:jo w a ls qs v wr):Dk w a ls (.returned v) wr:=by
 obtain⟨A,c,e,_⟩:=h.own.slice;subst e;have hl:=h.ok.1;rw[hl];rw[hl]at h;exact⟨A,c,qs,rfl,h⟩
theorem j4 (f:Nat→fJ) (pre:List fJ) (k:Nat):pre++(List.range (k+1)).map f=pre++(List.range k).map f++[f k]:=by
 rw[List.range_succ,List.map_append,List.append_assoc];rfl
theorem jA {α:Type} {c:Nat}:∀ {ls:List (List α)},(∀ l∈ls,l.length≤c)→ls.flatten.length≤ls.length*c
 |[],_=>by simp
 |l :: ls,h=>by
  have h1:=h l aj;have h2:=jA (ls:=ls) fun m hm=>h m (List.mem_cons_of_mem _ hm);rw[List.flatten_cons,List.length_append,List.length_cons,Nat.add_mul];omega
theorem jo.aside {w wr w4:World} {xs:List Addr} {v v':Value} {o:Obj} {S:Nat→Prop} {b3:Nat} {t:TypeId} {cs:List Value} (K:cH wr b3 t cs∧v.ownBlock≠some b3) (G:Grown mR 72 w.heap.size (wr.alloc o) S v xs w4 v'):cH w4 b3 t cs∧v'.ownBlock≠some b3:=by
 have hlt:=K.1.lt;refine⟨((G.turn.block b3 aq fun e=>K.2 e.symm).trans (heap_alloc_old wr o hlt)).trans K.1,fun e=>?_⟩;rcases G.row with h|h
 (·exact K.2 (h.symm.trans e));rw[h]at e;injection e with e;simp at e;omega
section
mutual
theorem F2:∀ x:cD,eF x=true→ZE 20 x
 | .mk op n unit name l,h=>by
  unfold eF at h;rw[Bool.and_eq_true]at h;unfold ZE;refine⟨?_,Dl l h.2⟩;have h1:=h.1;unfold mA at h1;have hz:fR name=true→name.size≤20:=fun q=>by
   unfold fR at q;(have:name.size=0:=by simpa using q);omega
  have hf:cT name=true→name.size≤20:=di;split at h1
  (·simp only[Bool.and_eq_true]at h1;exact hz h1.1.2);split at h1
  (·simp at h1);split at h1
  (·simp only[Bool.and_eq_true]at h1;exact hf h1.1);split at h1
  (·simp only[Bool.and_eq_true]at h1;exact hf h1.1);split at h1
  (·simp only[Bool.and_eq_true]at h1;exact hf h1.1.1);split at h1
  (·simp only[Bool.and_eq_true]at h1;exact hz h1.1);split at h1
  (·simp only[Bool.and_eq_true]at h1;exact hz h1.1);split at h1
  (·simp only[Bool.and_eq_true]at h1;exact hz h1.1);simp only[Bool.and_eq_true]at h1;exact hz h1.1.2
theorem Dl:∀ l:List cD,iK l=true→RL 20 l
 |[],_=>by unfold RL;trivial
 |x :: l,h=>by
  unfold iK at h;rw[Bool.and_eq_true]at h;unfold RL;exact⟨F2 x h.1,Dl l h.2⟩
end
theorem K4 {x:cD} (h:fj x=true):ZE 20 x:=by
 unfold fj at h;rw[Bool.and_eq_true]at h;exact F2 x h.2
theorem SM (p:ByteArray) (l:List ByteArray) (s:ByteArray):qq p (l++[s])=(qq p l||decide (20<(er p s).size)):=by
 unfold qq;rw[List.any_append];simp
structure jq (bp bl bq:Nat) (p:ByteArray) (l:List ByteArray) (w:World):Prop where
 name:cH w bp 9 [bV p]
 long:cH w bl 4 [.bool (qq p l)]
 put:cH w bq 68 [.func (.func 29) #[] #[.pointer (bS bp 0),.pointer (bS bl 0)]]
def Wn (bp bl bq r:Nat):Prop:=r=bp∨r=bl∨r=bq
theorem jq.keep {bp bl bq:Nat} {p:ByteArray} {l:List ByteArray} {w w':World} (h:jq bp bl bq p l w) (hk:∀ r,Wn bp bl bq r→w'.heap[r]? =w.heap[r]?):jq bp bl bq p l w':=
 ⟨(hk bp (.inl rfl)).trans h.name,(hk bl (.inr (.inl rfl))).trans h.long,(hk bq (.inr (.inr rfl))).trans h.put⟩
theorem jq.lt {bp bl bq:Nat} {p:ByteArray} {l:List ByteArray} {w:World} (h:jq bp bl bq p l w) (r:Nat) (hr:Wn bp bl bq r):r<w.heap.size:=by
 rcases hr with rfl|rfl|rfl
 (·exact h.name.lt)
 (·exact h.long.lt);exact h.put.lt
theorem SN (p s:ByteArray):(er p s).size=p.size+1+s.size:=by
 unfold er bs;simp[ByteArray.size_append];rfl
theorem NH {bp bl bq:Nat} {p s:ByteArray} {l:List ByteArray} {w:World} {b:Bool} (hpl:bp≠bl) (qN:bq≠bl) (h:jq bp bl bq p l w) (hb:b=(qq p l||decide (20<(er p s).size))):jq bp bl bq p (l++[s]) (w.setCell (bS bl 0) (.bool b))∧w.grownBy (w.setCell (bS bl 0) (.bool b)) (some bl):=by
 have k:∀ c,c≠bl→(w.setCell (bS bl 0) (.bool b)).heap[c]? =w.heap[c]? :=fun c hc=>Below.heap_setCell w (bS bl 0) (.bool b) c hc;refine⟨⟨(k bp hpl).trans h.name,?_,(k bq qN).trans h.put⟩,⟨rfl,rfl,rfl,by simp[World.setCell],fun c _ hr=>k c fun e=>hr (by rw[e])⟩⟩;rw[SM, ← hb];exact h.long.cM 0 (.bool b)
theorem Dm {bp bl bq:Nat} {p:ByteArray} (hp:p.size≤20) (hpl:bp≠bl) (qN:bq≠bl) (s:ByteArray) (hs:s.size≤20) (l:List ByteArray) (w:World) (h:jq bp bl bq p l w):Calls prog 29 #[bV s,.pointer (bS bp 0),.pointer (bS bl 0)] w fun e w'=>e= .returned (bV (er p s))∧jq bp bl bq p (l++[s]) w'∧w.grownBy w' (some bl):=by
 have h0:bW w bp 0 (bV p):=h.name.cell 0;have h1:bW w bl 0 (.bool (qq p l)):=h.long.cell 0;have h2:w.frozen? (bS bl 0)=false:=h.long.frozen 0;have H:=aa h;clear h;go_enter func29,ntmps29;have HE:=aa (fun b=>NH hpl qN H.o (s:=s) (b:=b));have e1:(bs [95])=⟨#[95]⟩:=rfl;cases Ku:qq p l with
 |true=>
  rw[Ku]at h1;go_wp2_with fail;go_ret;have h9:=HE.o true (by rw[Ku];rfl:(true:Bool)=(qq p l||decide (20<(er p s).size)));exact⟨rfl,h9⟩
 |false=>
  rw[Ku]at h1;go_wp2_with fail;go_ret;have h9:=HE.o (decide (20<(p.size:Int)+1+(s.size:Int))) (by rw[Ku,Bool.false_or,SN];exact decide_eq_decide.2 af);exact⟨rfl,h9⟩
theorem QX {bp bl bq:Nat} {p:ByteArray} (hp:p.size≤20) (hpl:bp≠bl) (qN:bq≠bl):Clo 20 32 #[.pointer (bS bq 0)] (Wn bp bl bq) (some bl) (jq bp bl bq p) (JX p) JY where
 enters:=enters_of func32 ai rfl
 rd:=fun r h=>by injection h with h;exact .inr (.inl h.symm)
 keep:=fun h _ hk=>h.keep hk
 lt:=fun h r hr=>h.lt r hr
 call:=fun op s l w hs h=>by
  show Calls prog 32 #[bR op,bV s,.pointer (bS bq 0)] w _;have h0:bW w bq 0 (.func (.func 29) #[] #[.pointer (bS bp 0),.pointer (bS bl 0)]):=h.put.cell 0;have HC:=aa (Dm hp hpl qN s hs l w h);have H:=aa h;have e1:=enters_of func29 ai rfl;clear h;have hch:JX p op s=if jQ op then er p s else s:=rfl;have Ku:JY op s=if jQ op then[s]else[]:=rfl;have hno:jQ op=(op==1||op==2||op==3):=rfl;have HT:=aa (fun(q:jQ op=true)=>(⟨by rw[hch,if_pos q],by rw[Ku,if_pos q]⟩:JX p op s=er p s∧JY op s=[s]));have HF:=aa (fun(q:jQ op=false)=>(⟨by rw[hch,if_neg (by rw[q];simp)],by rw[Ku,if_neg (by rw[q];simp)]⟩:JX p op s=s∧JY op s=[]));generalize hP:(fun(e:Ending) (w':World)=>e= .returned (bV (JX p op s))∧jq bp bl bq p (l++JY op s) w'∧w.grownBy w' (some bl))=P;have HP:=aa (fun(e:Ending) (w':World) (h:e= .returned (bV (JX p op s))∧jq bp bl bq p (l++JY op s) w'∧w.grownBy w' (some bl))=>(show P e w' from hP▸h));have HN:=aa hno;clear hch Ku hno hP;go_enter func32,ntmps32;cases q1:op==1 with
  |true=>
   have FA:=aa (HT.o (by rw[HN.o,q1];rfl));go_wp2_with fail;refine HC.o.mono ?_;rintro e w1 ⟨rfl,hj,hg⟩;have HJ:=aa hj;have HG:=aa hg;clear hj hg;go_wp2_with fail;exact HP.o (.returned (bV (er p s))) _ ⟨by rw[FA.o.1],by rw[FA.o.2];exact HJ.o,HG.o⟩
  |false=>
   cases q2:op==2 with
   |true=>
    have FA:=aa (HT.o (by rw[HN.o,q1,q2];rfl));go_wp2_with fail;refine HC.o.mono ?_;rintro e w1 ⟨rfl,hj,hg⟩;have HJ:=aa hj;have HG:=aa hg;clear hj hg;go_wp2_with fail;exact HP.o (.returned (bV (er p s))) _ ⟨by rw[FA.o.1],by rw[FA.o.2];exact HJ.o,HG.o⟩
   |false=>
    cases q3:op==3 with
    |true=>
     have FA:=aa (HT.o (by rw[HN.o,q1,q2,q3];rfl));go_wp2_with fail;refine HC.o.mono ?_;rintro e w1 ⟨rfl,hj,hg⟩;have HJ:=aa hj;have HG:=aa hg;clear hj hg;go_wp2_with fail;exact HP.o (.returned (bV (er p s))) _ ⟨by rw[FA.o.1],by rw[FA.o.2];exact HJ.o,HG.o⟩
    |false=>
     have Df:=aa (HF.o (by rw[HN.o,q1,q2,q3];rfl));go_wp2_with fail;exact HP.o (.returned (bV s)) _ ⟨by rw[Df.o.1],by rw[Df.o.2,List.append_nil];exact H.o,lp w _⟩
end
end Go.Proofs.YtkfofnjfihfgkaaGreatDoor
namespace Sh
open Kb
section
def xM (p:ByteArray) (m:Nat) (f:eU):eU:={f with params:=ix (fun i q=>if i<m then⟨er p q.name,q.unit⟩else q) f.params}
def F3 (p:ByteArray) (f:eU):eU:=⟨f.name,f.params.map fun q=>⟨er p q.name,q.unit⟩,kP p f.body⟩
def xN (p:ByteArray) (k m:Nat) (fs:List eU):List eU:=ix (fun j f=>if j<k then F3 p f else if j=k then xM p m f else f) fs
def Dn (p:ByteArray) (k:Nat) (cs:List cL):List cL:=ix (fun j c=>if j<k then⟨c.name,c.unit,kP p c.iY⟩else c) cs
def zm (f:eU):List ByteArray:=f.params.map (·.name)++iT f.body
section
variable {p:ByteArray} {k m:Nat} {fs:List eU} {cs:List cL} {f:eU} {c:cL}
theorem F4:xM p 0 f=f:=by
 unfold xM;rw[pG fun j x _=>by simp]
theorem Wp:(xM p f.params.length f).params=f.params.map fun q=>⟨er p q.name,q.unit⟩:=by
 unfold xM;(exact j0 fun j x hx=>by rw[if_pos (List.getElem?_eq_some_iff.1 hx).1])
theorem SP:xN p 0 0 fs=fs:=by
 unfold xN;(exact pG fun j x _=>by rw[if_neg (Nat.not_lt_zero j)];split;exact F4;rfl)
theorem Wq:(xN p k m fs).length=fs.length:=lu _ _
theorem Hw (h:fs[k]? =some f):(xN p k m fs)[k]? =some (xM p m f):=by
 unfold xN;rw[fP,h,Option.map_some,if_neg (Nat.lt_irrefl k),if_pos rfl]
theorem Dp:(xM p m f).params.length=f.params.length:=lu _ _
theorem parM_at (h:m<f.params.length):(xM p m f).params[m]'(by rw[Dp];exact h)=f.params[m]:=by
 unfold xM;simp only;rw[FZ _ _ h,if_neg (Nat.lt_irrefl m)]
theorem SQ (h:m<f.params.length):({xM p m f with params:=(xM p m f).params.modify m fun q=>⟨er p f.params[m].name,q.unit⟩}:eU)=xM p (m+1) f:=by
 unfold xM;simp only[eU.mk.injEq,true_and,and_true];rw[pH];refine cE fun i x hx=>?_;by_cases e:i=m
 (·subst e;have CD:f.params[i]=x:=Option.some.inj ((List.getElem?_eq_getElem h).symm.trans hx);rw[if_pos rfl,if_neg (Nat.lt_irrefl i),if_pos (Nat.lt_succ_self i),CD]);rw[if_neg e];by_cases q:i<m
 (·rw[if_pos q,if_pos af]);rw[if_neg q,if_neg af]
theorem NI (hf:fs[k]? =some f) (h:m<f.params.length):(xN p k m fs).modify k (fun g=>{g with params:=g.params.modify m fun q=>⟨er p f.params[m].name,q.unit⟩})=xN p k (m+1) fs:=by
 unfold xN;rw[pH];refine cE fun i x hx=>?_;by_cases e:i=k
 (·subst e;have CD:f=x:=Option.some.inj (hf.symm.trans hx);subst CD;rw[if_pos rfl,if_neg (Nat.lt_irrefl i),if_pos rfl,if_neg (Nat.lt_irrefl i),if_pos rfl];exact SQ h);rw[if_neg e];by_cases q:i<k
 (·rw[if_pos q,if_pos q]);rw[if_neg q,if_neg q,if_neg e,if_neg e]
theorem SR (hf:fs[k]? =some f):(xN p k f.params.length fs).modify k (fun g=>{g with body:=kP p f.body})=xN p (k+1) 0 fs:=by
 unfold xN;rw[pH];refine cE fun i x hx=>?_;by_cases e:i=k
 (·subst e;have CD:f=x:=Option.some.inj (hf.symm.trans hx);subst CD;rw[if_pos rfl,if_neg (Nat.lt_irrefl i),if_pos rfl,if_pos (Nat.lt_succ_self i)];unfold F3;rw[Wp];rfl);rw[if_neg e];by_cases q:i<k
 (·rw[if_pos q,if_pos af]);rw[if_neg q,if_neg e,if_neg af];by_cases q2:i=k+1
 (·rw[if_pos q2,F4]);rw[if_neg q2]
theorem Ws:xN p fs.length 0 fs=fs.map (F3 p):=by
 unfold xN;(exact j0 fun j x hx=>by rw[if_pos (List.getElem?_eq_some_iff.1 hx).1])
theorem SS:Dn p 0 cs=cs:=by
 unfold Dn;(exact pG fun j x _=>by rw[if_neg (Nat.not_lt_zero j)])
theorem Wt:(Dn p k cs).length=cs.length:=lu _ _
theorem celM_at (h:cs[k]? =some c):(Dn p k cs)[k]? =some c:=by
 unfold Dn;rw[fP,h,Option.map_some,if_neg (Nat.lt_irrefl k)]
theorem Wu (hc:cs[k]? =some c):(Dn p k cs).modify k (fun g=>{g with iY:=kP p c.iY})=Dn p (k+1) cs:=by
 unfold Dn;rw[pH];refine cE fun i x hx=>?_;by_cases e:i=k
 (·subst e;have CD:c=x:=Option.some.inj (hc.symm.trans hx);subst CD;rw[if_pos rfl,if_neg (Nat.lt_irrefl i),if_pos (Nat.lt_succ_self i)]);rw[if_neg e];by_cases q:i<k
 (·rw[if_pos q,if_pos af]);rw[if_neg q,if_neg af]
theorem Wv:Dn p cs.length cs=cs.map fun c=>⟨c.name,c.unit,kP p c.iY⟩:=by
 unfold Dn;(exact j0 fun j x hx=>by rw[if_pos (List.getElem?_eq_some_iff.1 hx).1])
end
theorem Ww (p:ByteArray) (s:bY):({mU p s with funcs:=(mU p s).funcs.map (F3 p),cells:=(mU p s).cells.map fun c=>⟨c.name,c.unit,kP p c.iY⟩}:bY)=iy p s:=by
 simp[mU,iy,F3,List.map_map,Function.comp_def]
theorem K5 {s:bY} (h:cN s=true):∀ n∈bZ s++usedNames s,n.size≤20:=by
 have P:=dm h;intro n hn;rw[List.mem_append]at hn;rcases hn with hn|hn
 ·unfold bZ at hn;simp only[List.mem_append,List.mem_map]at hn;rcases hn with(((((⟨x,hx,rfl⟩|⟨x,hx,rfl⟩)|⟨x,hx,rfl⟩)|⟨x,hx,rfl⟩)|⟨x,hx,rfl⟩)|⟨x,hx,rfl⟩)|⟨x,hx,rfl⟩
  (·exact di (P.imports x hx).1)
  (·exact di (P.inputs x hx).1)
  (·exact di (P.tables x hx).1)
  (·exact di (P.funcs x hx).1)
  (·exact di (P.cells x hx).1)
  (·exact di (P.b9 x hx).1);exact di (P.stores x hx).1
 unfold usedNames at hn;obtain⟨r,hr,hn⟩:=List.mem_flatMap.1 hn;obtain⟨y,hy,hn⟩:=List.mem_flatMap.1 hn;have hR:=(P.bX r hr).2;unfold dW at hR;rw[Bool.and_eq_true]at hR;have hS:=List.all_eq_true.1 hR.2 y hy;unfold dO at hS;split at hS
 (·cases hS);simp only[Bool.and_eq_true]at hS;obtain⟨⟨⟨⟨h1,h2⟩,h3⟩,h4⟩,_⟩:=hS;unfold kj at hn;simp only[List.mem_append]at hn;rcases hn with((hn|hn)|hn)|hn
 (·exact di ((iB h1).2 n hn))
 (·exact di ((iB h2).2 n hn))
 (·exact di ((iB h3).2 n hn));split at hn
 ·next hq=>
  have e:n=y.name:=aap;subst e;split at h4
  (·exact di h4);unfold gz at hq;rw[h4]at hq;simp at hq
 simp at hn
theorem K6 {s:bY} (h:cN s=true) {f:eU} (hf:f∈s.funcs):(∀ q∈f.params,q.name.size≤20)∧f.params.length≤6∧fj f.body=true:=by
 have hF:=((dm h).funcs f hf).2;unfold jU at hF;simp only[Bool.and_eq_true,decide_eq_true_eq]at hF;refine⟨fun q hq=>?_,hF.2.1.2,hF.2.2⟩;have:=List.all_eq_true.1 hF.1 q hq;unfold kX at this;rw[Bool.and_eq_true]at this;exact di this.1
theorem NJ {s:bY} (h:cN s=true) {c:cL} (hc:c∈s.cells):fj c.iY=true:=by
 have hC:=((dm h).cells c hc).2;unfold jE at hC;rw[Bool.and_eq_true]at hC;exact hC.2
theorem Wx (p:ByteArray) (s:bY):(mU p s).funcs.flatMap zm++(mU p s).cells.flatMap (fun c=>iT c.iY)=iF s:=by
 simp[mU,iF,zm,List.flatMap_map]
theorem K7 (p:ByteArray) {s:bY} (h:cN s=true):∀ f∈(mU p s).funcs,(∀ q∈f.params,q.name.size≤20)∧f.params.length≤6∧fj f.body=true:=fun f hf=>by
 simp only[mU,List.mem_map]at hf;obtain⟨f0,h0,rfl⟩:=hf;exact K6 (f:=f0) h h0
theorem NK (p:ByteArray) {s:bY} (h:cN s=true):∀ c∈(mU p s).cells,fj c.iY=true:=fun c hc=>by
 simp only[mU,List.mem_map]at hc;obtain⟨c0,h0,rfl⟩:=hc;exact NJ (c:=c0) h h0
end
end Sh
