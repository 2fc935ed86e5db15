/- Parts of the proof, packed (OverP to SmP); each theorem bears its own conditions. -/
import Derived.Test.YtkfofnjfihfgkaaGreatDoorPz14
set_option linter.unusedVariables false
set_option linter.unusedSimpArgs false
set_option maxRecDepth 100000
set_option maxHeartbeats 8000000
open Go.Proofs.Tryz
open Go.Lib renaming hid → aa
theorem aU {p:Prop} (h:p:=by cases q):p:=h
theorem aL {p:Prop} (h:p:=by show 1≤maxLen;decide):p:=h
theorem aZ {p:Prop} (h:p:=by show 3≤maxLen;decide):p:=h
namespace Sh
open Kb
section
theorem Ni (a b:ByteArray):(a==b)=decide (a=b):=by
 cases a with
 |mk x=>
  cases b with
  |mk y=>
   have h:((ByteArray.mk x)==(ByteArray.mk y))=(x==y):=rfl;rw[h];by_cases e:x=y
   (·subst e;simp);have e2:¬ByteArray.mk x=ByteArray.mk y:=fun k=>e (by injection k);rw[decide_eq_false e2];simpa using e
instance lawfulBA:LawfulBEq ByteArray where
 eq_of_beq h:=by rw[Ni]at h;exact of_decide_eq_true h
 rfl:=fun {a}=>by rw[Ni];simp
theorem oQ {α:Type} {l:List α} (h:l.Nodup) {i j:Nat} (hi:i<l.length) (hj:j<l.length) (e:l[i]=l[j]):i=j:=by
 have hp:=List.pairwise_iff_getElem.1 h;rcases Nat.lt_trichotomy i j with q|q|q
 (·exact absurd e (hp i j hi hj q))
 (·exact q);exact absurd e.symm (hp j i hj hi q)
theorem xC {cs:List cL} {n:ByteArray} {k:Nat} (h:mG cs n=some k):∃ hk:k<cs.length,cs[k].name=n:=by
 unfold mG at h;obtain⟨hk,hp,_⟩:=List.findIdx?_eq_some_iff_getElem.1 h;exact⟨hk,by simpa using hp⟩
theorem Hq {cs:List cL} {k:Nat} (hk:k<cs.length):(cs.map (·.unit)).getD k (bs [])=cs[k].unit:=by simp[hk]
theorem mK:∀ {seen:List ByteArray} {us:List IG},oV seen us=true→us.all (·.2)=true∧(∀ u∈us,cT u.1=true)∧(us.map (·.1)).Nodup∧∀ u∈us,u.1∉seen
 |seen,[],_=>by simp
 |seen,(n,b) :: l,h=>by
  simp only[oV,Bool.and_eq_true]at h;obtain⟨⟨⟨h1,h2⟩,h3⟩,h4⟩:=h;obtain⟨k1,k2,k3,k4⟩:=mK h4;have h3':n∉seen:=(by simpa using h3);refine⟨?_,?_,?_,?_⟩
  (·simp only[List.all_cons,h1,k1,Bool.and_self])
  ·intro u hu;rcases List.mem_cons.1 hu with rfl|hu
   (·exact h2);exact k2 u hu
  (·rw[List.map_cons,List.nodup_cons];refine⟨fun hm=>?_,k3⟩;obtain⟨u,hu,e⟩:=List.mem_map.1 hm;exact k4 u hu (by rw[e];simp));intro u hu;rcases List.mem_cons.1 hu with rfl|hu
  (·exact h3');exact fun q=>k4 u hu (List.mem_cons_of_mem _ q)
theorem Bz:∀ {seen:List ByteArray} {us:List IG},us.all (·.2)=true→(∀ u∈us,cT u.1=true)→(us.map (·.1)).Nodup→(∀ u∈us,u.1∉seen)→oV seen us=true
 |seen,[],_,_,_,_=>rfl
 |seen,(n,b) :: l,h1,h2,h3,h4=>by
  simp only[List.all_cons,Bool.and_eq_true]at h1;rw[List.map_cons,List.nodup_cons]at h3;have h5:=h4 (n,b) aj;have ih:=Bz (seen:=n :: seen) (us:=l) h1.2 (fun u hu=>h2 u (List.mem_cons_of_mem _ hu)) h3.2 (fun u hu q=>by
   rcases List.mem_cons.1 q with q|q
   (·exact h3.1 (List.mem_map.2 ⟨u,hu,q⟩));exact h4 u (List.mem_cons_of_mem _ hu) q)
  simp only[oV,Bool.and_eq_true];refine⟨⟨⟨h1.1,h2 (n,b) aj⟩,?_⟩,ih⟩;simpa using h5
theorem jZ (s:bY):cN s=true↔cT s.name=true∧oV [] (uses s)=true∧(uses s).length+s.bX.length≤100∧oV [] (s.bX.map fun x=>(x.kind,dW x))=true:=by
 unfold cN;simp only[Bool.and_eq_true,decide_eq_true_eq];constructor
 (·rintro⟨⟨⟨h1,h2⟩,h3⟩,h4⟩;exact⟨h1,h2,h3,h4⟩);rintro⟨h1,h2,h3,h4⟩;exact⟨⟨⟨h1,h2⟩,h3⟩,h4⟩
section
variable {s:bY} {a b:List cL}
end
end
end Sh
namespace Go.Proofs.YtkfofnjfihfgkaaGreatDoor
open Go Go.RowKit Go.Proofs Sh Kb
theorem zb:∀ args w,(callFunc 49 args).run prog w= .ok (.enter 49 args) w:=enters_of func49 ai rfl
theorem over_is (pc:Nat) (nm:ByteArray) (l:List cL) (w:World) (hc:bW w pc 0 (bV nm)) (hp:pc<w.heap.size):jN prog 49 #[.pointer (bS pc 0)] dS (fun x=>x.name==nm) l w:=fun W cs x hx ep hb=>by
 obtain⟨es,e,he⟩:=ep;obtain⟨op,n,un,nm2,A,c,ar,_,Eo,_⟩:=he.parts;subst Eo e;have h0:bW W pc 0 (bV nm):=(hb.cell (p:=bS pc 0) hp).trans hc;have hpW:pc<W.heap.size:=Nat.lt_of_lt_of_le hp hb.size;have e1:(x.name.data.toList==nm.data.toList)=(x.name==nm):=by
  rw[Gx];by_cases q:x.name=nm
  (·subst q;simp);have q2:¬x.name.data.toList=nm.data.toList:=fun e=>q (by
   have:x.name.data=nm.data:=Array.toList_inj.1 e;cases hx1:x.name;cases yb:nm;rw[hx1,yb]at this;simpa using this)
  have q3:¬x.name.data=nm.data:=fun e=>q2 (by rw[e]);simp[q,q3]
 rw[← Lib.toList_data, ← Lib.toList_data]at e1;generalize hxn:x.name=xn at e1 ⊢;have HXN:=aa hxn;clear hxn;generalize x.unit=xu;have HE:=aa e1;clear e1;show Calls prog 49 #[.agg #[bV xn,bV xu,bR op,bR n,bV un,bV nm2,bQ A ar c],.pointer (bS pc 0)] W _;go_enter func49,ntmps49;go_wp2_with fail;go_ret;exact⟨by show Ending.returned (.bool (xn.toList==nm.toList))=_;rw[HE.o, ← HXN.o],cJ _⟩
def Kz:dU:=⟨none,0,none,0,none,0,none,0,none,0,none,0,none,0,none,0⟩
theorem Nl (w:World) (S:Nat→Prop):cB w S Kz gH:=⟨Sq.nil,Sq.nil,Sq.nil,Sq.nil,Sq.nil,Sq.nil,Sq.nil,Sq.nil⟩
def tN (r:Int×bY) (w:World) (e:Ending) (w':World):Prop:=
 ∃ a,e= .returned (.tuple #[.agg (cn a r.2).toArray,bR r.1])∧cB w' (fun b=>w.heap.size≤b) a r.2∧Below w w w'
theorem Sy {r:Int×bY} {n:Int} {w w':World} (h:r=(n,gH)) (hb:Below w w w'):tN r w (.returned (.tuple #[.agg (gh),bR n])) w':=by
 subst h;exact⟨Kz,rfl,Nl _ _,hb⟩
theorem qA {r:Int×bY} {n:Int} {w W:World} {p t:Nat} {cs:List Value} (hK:cH W p t cs) (hl:cs.length=9) (h:r=(n,gH)) (hb:Below w w W) (hp:w.heap.size≤p):∃ wF,wF=(((((((((W.setCell (bS p 0) (bV ⟨#[]⟩)).setCell (bS p 1) cG).setCell (bS p 2) cG).setCell (bS p 3) cG).setCell (bS p 4) cG).setCell (bS p 5) cG).setCell (bS p 6) cG).setCell (bS p 7) cG).setCell (bS p 8) cG)∧(∀ i,wF.cell? (bS p i)=((gh):List Value)[i]?)∧tN r w (.returned (.tuple #[.agg (gh),bR n])) wF:=by
 refine⟨_,rfl,fun i=>?_,Sy h ?_⟩
 ·match cs,hl with
  |[u0,u1,u2,u3,u4,u5,u6,u7,u8],_=>exact cH.cell (t:=t) (((((((((hK.cM 0 _).cM 1 _).cM 2 _).cM 3 _).cM 4 _).cM 5 _).cM 6 _).cM 7 _).cM 8 _) i
 (repeat refine Below.setCell ?_ (by exact hp) _);exact hb
theorem VS {s:bY} {l:List cL} (h:cN s=false):fk s l=(1,gH):=by unfold fk;rw[h];rfl
theorem ze {s:bY} {l:List cL} {k:Nat} {c:cL} (hc:l[k]? =some c) (h:jG c=false):fk s l=(1,gH):=by
 unfold fk;have:l.all jG=false:=by
  rw[List.all_eq_false];exact⟨c,List.mem_of_getElem? hc,by rw[h];simp⟩
 rw[this];simp
theorem over_go {s:bY} {l:List cL} (h:cN s=true) (hl:l.all jG=true):fk s l=if(gS [] s.cells l).1=0 then(0,{s with cells:=(gS [] s.cells l).2})else((gS [] s.cells l).1,gH):=by
 unfold fk;rw[h,hl];rfl
theorem Nn {done:List ByteArray} {cs:List cL} {c:cL} {l:List cL} (h:done.contains c.name=true):(gS done cs (c :: l)).1=5:=by unfold gS;rw[if_pos h]
theorem Sz {done:List ByteArray} {cs:List cL} {c:cL} {l:List cL} (h:done.contains c.name=false) (hi:mG cs c.name=none):(gS done cs (c :: l)).1=4:=by unfold gS;rw[if_neg (by rw[h];simp),hi]
theorem SA {done:List ByteArray} {cs:List cL} {c:cL} {l:List cL} {j:Nat} (h:done.contains c.name=false) (hj:j<cs.length) (hi:mG cs c.name=some j) (hd:¬(iJ c.unit).2=(iJ cs[j].unit).2):(gS done cs (c :: l)).1=14:=by
 unfold gS;rw[if_neg (by rw[h];simp),hi];simp only[Hq hj];rw[if_neg hd]
theorem SB {done:List ByteArray} {cs:List cL} {c:cL} {l:List cL} {j:Nat} (h:done.contains c.name=false) (hj:j<cs.length) (hi:mG cs c.name=some j) (hd:(iJ c.unit).2=(iJ cs[j].unit).2):gS done cs (c :: l)=gS (c.name :: done) (cs.set j c) l:=by
 show(if done.contains c.name then _ else _)=_;rw[if_neg (by rw[h];simp),hi];simp only[Hq hj];rw[if_pos hd]
theorem VT {cs:List cL} {n:ByteArray}:rU (fun x:cL=>x.name==n) cs=match mG cs n with|some k=>(k:Int)|none=>-1:=rfl
theorem Da {s:bY} {l:List cL} {n:Int} (h:fk s l=if(gS [] s.cells l).1=0 then(0,{s with cells:=(gS [] s.cells l).2})else((gS [] s.cells l).1,gH)) (h1:(gS [] s.cells l).1=n) (hn:n≠0):fk s l=(n,gH):=by
 rw[h,h1,if_neg hn]
theorem SC {s:bY} {l cs:List cL} {done:List ByteArray} (h:fk s l=if(gS [] s.cells l).1=0 then(0,{s with cells:=(gS [] s.cells l).2})else((gS [] s.cells l).1,gH)) (h1:gS [] s.cells l=gS done cs []):fk s l=(0,{s with cells:=cs}):=by
 rw[h,h1];rfl
def OvRel (p m B:Nat) (w:World) (a:dU) (s:bY) (l:List cL) (k:Nat) (wr:World):Prop:=
 ∃ (done:List ByteArray) (xs:List cL) (tag:Tag),xs.length=s.cells.length∧done.length=k∧I0 p m B w a {s with cells:=xs} done tag wr∧gS [] s.cells l=gS done xs (l.drop k)∧∀ y∈xs,Ms y.unit
section
def tO (w:World):List Obj→World
 |[]=>w
 |o :: l=>tO (w.alloc o) l
theorem mL (B:Nat):∀ (l:List Obj) (w:World),B≤w.heap.size→Below B w (tO w l)
 |[],w,_=>Below.refl _ _
 |o :: l,w,h=>((Below.refl B w).alloc h o).trans (mL B l _ aq)
theorem uC:∀ (l:List Obj) (w:World) (i:Nat) (o:Obj),l[i]? =some o→(tO w l).heap[w.heap.size+i]? =some o
 |[],w,i,o,h=>by simp at h
 |p :: l,w,0,o,h=>by
  have e:p=o:=aO;subst e;exact((mL (w+1) l (w.alloc p) aj).block w af).trans (heap_alloc_new w p)
 |p :: l,w,i+1,o,h=>by
  have:=uC l (w.alloc p) i o aO
  rwa [show(w.alloc p).heap.size+i=w.heap.size+(i+1) by simp;omega]at this
section
variable {α:Type} {R:Rel α} {w:World} {S:Nat→Prop} {g:Nat} {T:TypeId}
theorem Sq.VU {css:List (List Value)} {xs:List α} (h:cH w g T css.flatten) (hl:css.length=xs.length) (hk:∀ cs∈css,cs.length=R.k) (hS:S g) (hr:∀ (j:Nat) cs x,css[j]? =some cs→xs[j]? =some x→R.is w S cs x):Sq R w S (bS g 0) xs:=
 ⟨css,hl,fun _=>⟨g,0,rfl,hS,h.lt,fun j cs hj i v hv=>by rw[Nat.zero_add,h.cell];exact jY hk j i cs v hj hv⟩,hr⟩
theorem Sq.Db {cs:List Value} {x:α} (h:cH w g T cs) (hS:S g) (hr:R.is w S cs x):Sq R w S (bS g 0) [x]:=
 Sq.VU (css:=[cs]) aO rfl (by intro c hc;rw[List.mem_singleton.1 hc];exact R.len hr) hS fun j c y hc hy=>by
  cases j with
  |zero=>simp at hc hy;subst hc hy;exact hr
  |succ j=>simp at hc
theorem Sq.blk2 {cs ds:List Value} {x y:α} (h:cH w g T (cs++ds)) (hS:S g) (hr:R.is w S cs x) (hq:R.is w S ds y):Sq R w S (bS g 0) [x,y]:=
 Sq.VU (css:=[cs,ds]) aO rfl (by intro c hc;simp at hc;rcases hc with rfl|rfl;exact R.len hr;exact R.len hq) hS fun j c z hc hz=>by
  match j with
  |0=>simp at hc hz;subst hc hz;exact hr
  |1=>simp at hc hz;subst hc hz;exact hq
  |j+2=>simp at hc
theorem KD {op n:Int} {un nm:ByteArray}:cR w S [bR op,bR n,bV un,bV nm,cG] (.mk op n un nm []):=cR.of (A:=none) (c:=0) (args:=[]) Sq.nil
end
def gP:bY:=⟨bs [109,105,108,108],[],[⟨bs [97],bs [107,103],bs []⟩],[],[],[⟨bs [98],bs [107,103],.mk 6 0 (bs []) (bs []) [.mk 1 0 (bs []) (bs [97]) [],.mk 0 2 (bs [107,103]) (bs []) []]⟩],[⟨bs [102],bs [107,103],5⟩],[],[⟨bs [99,111,50],[⟨8,[bs [112]],[],bs [],[],0⟩]⟩]⟩
def VV (w:World) (e:Ending) (w':World):Prop:=∃ a,e= .returned (.agg (cn a gP).toArray)∧cB w' (fun b=>w.heap.size≤b) a gP∧Below w w w'
theorem mM (w:World):Calls prog 22 #[] w (VV w):=by
 generalize hP:VV w=P;have HP:=aa (show ∀ e w',VV w e w'→P e w' from fun e w' h=>hP▸h);clear hP;go_enter func22,ntmps22;go_wp2_with fail;obtain⟨W,hW⟩:∃ W,W=tO w [.cells #[bV ⟨#[109,105,108,108]⟩,cG,bQ (bS (w+3) 0) 1 1,cG,cG,bQ (bS (w+4) 0) 1 1,bQ (bS (w+5) 0) 1 1,cG,bQ (bS (w+9) 0) 1 1] 31,.cells #[.int .i64 1,.int .i64 0,bV ⟨#[]⟩,bV ⟨#[97]⟩,cG,.int .i64 0,.int .i64 2,bV ⟨#[107,103]⟩,bV ⟨#[]⟩,cG] 54,.cells #[.int .i64 6,.int .i64 0,bV ⟨#[]⟩,bV ⟨#[]⟩,bQ (bS (w+1) 0) 2 2] 54,.cells #[bV ⟨#[97]⟩,bV ⟨#[107,103]⟩,bV ⟨#[]⟩] 125,.cells #[bV ⟨#[98]⟩,bV ⟨#[107,103]⟩,.int .i64 6,.int .i64 0,bV ⟨#[]⟩,bV ⟨#[]⟩,bQ (bS (w+1) 0) 2 2] 56,.cells #[bV ⟨#[102]⟩,bV ⟨#[107,103]⟩,.int .i64 5] 127,.cells #[bV ⟨#[109,105,108,108]⟩,cG,bQ (bS (w+3) 0) 1 1,cG,cG,bQ (bS (w+4) 0) 1 1,bQ (bS (w+5) 0) 1 1,cG,bQ (bS (w+9) 0) 1 1] 31,.cells #[bV ⟨#[112]⟩] 9,.cells #[.int .i64 8,bQ (bS (w+7) 0) 1 1,cG,bV ⟨#[]⟩,cG,.int .i64 0] 65,.cells #[bV ⟨#[99,111,50]⟩,bQ (bS (w+8) 0) 1 1] 62]:=⟨_,rfl⟩;have hb:Below w w W:=(by rw[hW];exact mL _ _ _ (Nat.le_refl _));have hA:=fun i o h=>hW▸uC [.cells #[bV ⟨#[109,105,108,108]⟩,cG,bQ (bS (w+3) 0) 1 1,cG,cG,bQ (bS (w+4) 0) 1 1,bQ (bS (w+5) 0) 1 1,cG,bQ (bS (w+9) 0) 1 1] 31,.cells #[.int .i64 1,.int .i64 0,bV ⟨#[]⟩,bV ⟨#[97]⟩,cG,.int .i64 0,.int .i64 2,bV ⟨#[107,103]⟩,bV ⟨#[]⟩,cG] 54,.cells #[.int .i64 6,.int .i64 0,bV ⟨#[]⟩,bV ⟨#[]⟩,bQ (bS (w+1) 0) 2 2] 54,.cells #[bV ⟨#[97]⟩,bV ⟨#[107,103]⟩,bV ⟨#[]⟩] 125,.cells #[bV ⟨#[98]⟩,bV ⟨#[107,103]⟩,.int .i64 6,.int .i64 0,bV ⟨#[]⟩,bV ⟨#[]⟩,bQ (bS (w+1) 0) 2 2] 56,.cells #[bV ⟨#[102]⟩,bV ⟨#[107,103]⟩,.int .i64 5] 127,.cells #[bV ⟨#[109,105,108,108]⟩,cG,bQ (bS (w+3) 0) 1 1,cG,cG,bQ (bS (w+4) 0) 1 1,bQ (bS (w+5) 0) 1 1,cG,bQ (bS (w+9) 0) 1 1] 31,.cells #[bV ⟨#[112]⟩] 9,.cells #[.int .i64 8,bQ (bS (w+7) 0) 1 1,cG,bV ⟨#[]⟩,cG,.int .i64 0] 65,.cells #[bV ⟨#[99,111,50]⟩,bQ (bS (w+8) 0) 1 1] 62] w i o h;have k0:cH W (w+0) 31 [bV ⟨#[109,105,108,108]⟩,cG,bQ (bS (w+3) 0) 1 1,cG,cG,bQ (bS (w+4) 0) 1 1,bQ (bS (w+5) 0) 1 1,cG,bQ (bS (w+9) 0) 1 1]:=hA 0 _ rfl;have k1:cH W (w+1) 54 [.int .i64 1,.int .i64 0,bV ⟨#[]⟩,bV ⟨#[97]⟩,cG,.int .i64 0,.int .i64 2,bV ⟨#[107,103]⟩,bV ⟨#[]⟩,cG]:=hA 1 _ rfl;have k2:cH W (w+2) 54 [.int .i64 6,.int .i64 0,bV ⟨#[]⟩,bV ⟨#[]⟩,bQ (bS (w+1) 0) 2 2]:=hA 2 _ rfl;have k3:cH W (w+3) 125 [bV ⟨#[97]⟩,bV ⟨#[107,103]⟩,bV ⟨#[]⟩]:=hA 3 _ rfl;have k4:cH W (w+4) 56 [bV ⟨#[98]⟩,bV ⟨#[107,103]⟩,.int .i64 6,.int .i64 0,bV ⟨#[]⟩,bV ⟨#[]⟩,bQ (bS (w+1) 0) 2 2]:=hA 4 _ rfl;have k5:cH W (w+5) 127 [bV ⟨#[102]⟩,bV ⟨#[107,103]⟩,.int .i64 5]:=hA 5 _ rfl;have k6:cH W (w+6) 31 [bV ⟨#[109,105,108,108]⟩,cG,bQ (bS (w+3) 0) 1 1,cG,cG,bQ (bS (w+4) 0) 1 1,bQ (bS (w+5) 0) 1 1,cG,bQ (bS (w+9) 0) 1 1]:=hA 6 _ rfl;have k7:cH W (w+7) 9 [bV ⟨#[112]⟩]:=hA 7 _ rfl;have k8:cH W (w+8) 65 [.int .i64 8,bQ (bS (w+7) 0) 1 1,cG,bV ⟨#[]⟩,cG,.int .i64 0]:=hA 8 _ rfl;have k9:cH W (w+9) 62 [bV ⟨#[99,111,50]⟩,bQ (bS (w+8) 0) 1 1]:=hA 9 _ rfl;have hI:cB W (fun b=>w.heap.size≤b) ⟨none,0,bS (w+3) 0,1,none,0,none,0,bS (w+4) 0,1,bS (w+5) 0,1,none,0,bS (w+9) 0,1⟩ gP:=by
  have ex:cR W (fun b=>w.heap.size≤b) [bR 6,bR 0,bV ⟨#[]⟩,bV ⟨#[]⟩,bQ (bS (w+1) 0) 2 2] (.mk 6 0 (bs []) (bs []) [.mk 1 0 (bs []) (bs [97]) [],.mk 0 2 (bs [107,103]) (bs []) []]):=cR.of (Sq.blk2 (R:=ja) (cs:=[bR 1,bR 0,bV ⟨#[]⟩,bV ⟨#[97]⟩,cG]) (ds:=[bR 0,bR 2,bV ⟨#[107,103]⟩,bV ⟨#[]⟩,cG]) k1 af KD KD);exact⟨Sq.nil,Sq.Db k3 af rfl,Sq.nil,Sq.nil,Sq.Db k4 af ⟨_,rfl,ex⟩,Sq.Db k5 af rfl,Sq.nil,
   Sq.Db k9 af ⟨_,_,rfl,Sq.Db k8 af ⟨_,_,none,0,none,0,rfl,Sq.Db k7 af rfl,Sq.nil,Sq.nil⟩⟩⟩
 show bodyPost _ _ P _ _ (tO w [.cells #[bV ⟨#[109,105,108,108]⟩,cG,bQ (bS (w+3) 0) 1 1,cG,cG,bQ (bS (w+4) 0) 1 1,bQ (bS (w+5) 0) 1 1,cG,bQ (bS (w+9) 0) 1 1] 31,.cells #[bR 1,bR 0,bV ⟨#[]⟩,bV ⟨#[97]⟩,cG,bR 0,bR 2,bV ⟨#[107,103]⟩,bV ⟨#[]⟩,cG] 54,.cells #[bR 6,bR 0,bV ⟨#[]⟩,bV ⟨#[]⟩,bQ (bS (w+1) 0) 2 2] 54,.cells #[bV ⟨#[97]⟩,bV ⟨#[107,103]⟩,bV ⟨#[]⟩] 125,.cells #[bV ⟨#[98]⟩,bV ⟨#[107,103]⟩,bR 6,bR 0,bV ⟨#[]⟩,bV ⟨#[]⟩,bQ (bS (w+1) 0) 2 2] 56,.cells #[bV ⟨#[102]⟩,bV ⟨#[107,103]⟩,bR 5] 127,.cells #[bV ⟨#[109,105,108,108]⟩,cG,bQ (bS (w+3) 0) 1 1,cG,cG,bQ (bS (w+4) 0) 1 1,bQ (bS (w+5) 0) 1 1,cG,bQ (bS (w+9) 0) 1 1] 31,.cells #[bV ⟨#[112]⟩] 9,.cells #[bR 8,bQ (bS (w+7) 0) 1 1,cG,bV ⟨#[]⟩,cG,bR 0] 65,.cells #[bV ⟨#[99,111,50]⟩,bQ (bS (w+8) 0) 1 1] 62]);rw[← hW];have kk:=k0.cell;clear hA hW k0 k1 k2 k3 k4 k5 k6 k7 k8 k9;rw[Nat.add_zero]at kk;exact bodyPost_ret (v:= .agg #[bV ⟨#[109,105,108,108]⟩,cG,bQ (bS (w+3) 0) 1 1,cG,cG,bQ (bS (w+4) 0) 1 1,bQ (bS (w+5) 0) 1 1,cG,bQ (bS (w+9) 0) 1 1]) (by simp[results,results22,go_sem,kk]) rfl (HP.o _ _ ⟨_,rfl,hI,hb⟩)
end
end Go.Proofs.YtkfofnjfihfgkaaGreatDoor
namespace Go.Proofs.YtkfofnjfihfgkaaGreatDoor
open Go Go.RowKit
section
section
variable {P:Program} {ops:Array Oper} {md:Region.Mode} {S:Nat→World→Prop} {Q:Exit→Act→World→Prop} {D:List Nat}
def left (md:Region.Mode) (ops:Array Oper) (D:List Nat) (j:Nat):List Nat:=D.filter fun d=> !waits md ops 12 j d
def ET (S:Nat→World→Prop) (w:World):List Nat→Prop
 |[]=>True
 |d :: l=>S d w∧ET S w l
theorem ET.mem {w:World}:∀ {l:List Nat},ET S w l→∀ d∈l,S d w
 |[],_,d,h=>by cases h
 |a :: l,hs,d,h=>by
  rcases List.mem_cons.1 h with rfl|h
  (·exact hs.1);exact ET.mem hs.2 d h
def Pres (md:Region.Mode) (ops:Array Oper) (S:Nat→World→Prop) (D:List Nat) (j:Nat) (w w':World):Prop:=∀ d∈D,waits md ops 12 j d=false→S d w→S d w'
theorem ET.pres {j:Nat} {w w':World} (h:ET S w' (left md ops D j)):Pres md ops S D j w w':=fun d hd hw _=>h.mem d (List.mem_filter.2 ⟨hd,by rw[hw];rfl⟩)
def kM (P:Program) (md:Region.Mode) (ops:Array Oper) (S:Nat→World→Prop) (Q:Exit→Act→World→Prop) (D:List Nat):List (Nat×Bool)→Act→World→Prop
 |[],a,w=>Q .normal a w
 |(i,false) :: r,a,w=>∃ oi v,ops[i]? =some oi∧YieldsIf P ops (S i) oi v a∧kM P md ops S Q D r (a.put oi.dst v) w
 |(i,true) :: r,a,w=>wpOp P ops Q i (fun a' w'=>ET S w' (left md ops D i)∧kM P md ops S Q D r a' w') a w
def KF (P:Program) (md:Region.Mode) (ops:Array Oper) (Q:Exit→Act→World→Prop) (S:Nat→World→Prop) (D:List Nat):Nat→Array Bool→Act→World→Prop
 |0,listed,a,w=>Region.ready md ops listed=[]∧Q .normal a w
 |f+1,listed,a,w=>(Region.ready md ops listed=[]→Q .normal a w)∧
  ∀ j∈Region.ready md ops listed,wpOp P ops Q j (fun a' w'=>Pres md ops S D j w w'∧KF P md ops Q S D f (listed.setIfInBounds j true) a' w') a w
theorem FQ:∀ (f:Nat) (listed:Array Bool) (a:Act) (w:World),KF P md ops Q S D f listed a w→wpAny P md ops Q f listed a w
 |0,_,_,_,h=>h
 |f+1,_,_,_,h=>⟨h.1,fun i hi=>wpOp_mono (fun a' w' h'=>FQ f _ a' w' h'.2) (h.2 i hi)⟩
theorem VW {i:Nat} {oi:Oper} {v:Value} (hD:i∈D) (hi:ops[i]? =some oi) (hsel:∀ (j:Nat) (o:Oper) cs b,ops[j]? =some o→o.op≠ .select cs b) (hQ:∀ c a w,Q (.panic c) (a.put oi.dst v) w→Q (.panic c) a w) (f:Nat):∀ (listed:Array Bool) (a:Act) (w:World),Af md ops listed→(∀ j oj,ops[j]? =some oj→j≠i→listed.getD j true=false→(∀ e∈oj.after,Region.binds md e=true→e.on≠i)→oi.apart ops oj=true)→i∈Region.ready md ops listed→YieldsIf P ops (S i) oi v a→S i w→KF P md ops Q S D f (listed.setIfInBounds i true) (a.put oi.dst v) w→KF P md ops Q S D (f+1) listed a w:=by
 induction f with
 |zero=>
  intro listed a w _ _ hr hy hS H;refine⟨fun h=>aaj,fun j hj=>?_⟩;by_cases e:j=i
  (·subst e;exact hy.wpOp hi hS ⟨fun _ _ _ h=>h,H⟩);have h1:=ready_mono hj e;rw[H.1]at h1;cases h1
 |succ f ih=>
  intro listed a w hsh hfree hr hy hS H;refine⟨fun h=>aaj,fun j hj=>?_⟩;by_cases e:j=i
  (·subst e;exact hy.wpOp hi hS ⟨fun _ _ _ h=>h,H⟩);obtain⟨YB,oj,Js,hall⟩:=mem_ready.1 hj;have hun:=(mem_ready.1 hr).1;have hnot:∀ e∈oj.after,Region.binds md e=true→e.on≠i:=fun x hx hb q=>by
   have h1:=hall x hx hb;rw[q,getD_both hun]at h1;cases h1
  have QF:waits md ops 12 j i=false:=by
   cases hw:waits md ops 12 j i with
   |false=>rfl
   |true=>
    have h1:=mJ hsh 12 j (fun o ho x hx hb=>by
     have:o=oj:=Option.some.inj (ho.symm.trans Js);subst this;exact hall x hx hb) hw
    rw[getD_both hun]at h1;cases h1
  have h2:=wpOp_putIf Js (hfree j oj Js e YB hnot) (fun cs b=>hsel i oi cs b hi) (fun cs b=>hsel j oj cs b Js) hQ hy (H.2 j (ready_mono hj e));refine wpOp_mono (fun a' w' h3=>⟨h3.2.1,ih (listed.setIfInBounds j true) a' w' (hsh.set hj) (fun k ok hk hki hu hno=>?_) (ready_mono hr (Ne.symm e)) h3.1 (h3.2.1 i hD QF hS) (by rw[Array.setIfInBounds_comm _ _ e];exact h3.2.2)⟩) h2;refine hfree k ok hk hki ?_ hno;by_cases q:j=k
  (·subst q;exact YB);rw[getD_set_ne true q]at hu;exact hu
theorem Dc {listed:Array Bool} {i d:Nat} (h:(listed.setIfInBounds i true).getD d true=false) (hi:listed.getD i true=false):listed.getD d true=false:=by
 by_cases q:i=d
 (·subst q;exact hi);rw[getD_set_ne true q]at h;exact h
theorem vJ (hsel:Region.noSelect ops=true) (hQ:∀ (d:Option Tmp) (v:Value) c a w,Q (.panic c) (a.put d v) w→Q (.panic c) a w):∀ (ord:List (Nat×Bool)) (listed:Array Bool) (a:Act) (w:World),Af md ops listed→
 sO md ops D listed ord=true→(∀ d∈D,listed.getD d true=false→S d w)→kM P md ops S Q D ord a w→KF P md ops Q S D ord.length listed a w
 |[],listed,a,w,_,hB,_,h=>⟨by simpa [sO]using hB,h⟩
 |(i,false) :: r,listed,a,w,hsh,hB,hS,⟨oi,v,hi,hy,h⟩=>by
  simp only[sO,Bool.and_eq_true]at hB;obtain⟨⟨⟨hD,hr⟩,hf⟩,hB'⟩:=hB;have hD':i∈D:=(by simpa using hD);have hr':i∈Region.ready md ops listed:=(by simpa using hr);have hSw:S i w:=hS i hD' (mem_ready.1 hr').1;exact VW hD' hi (Region.noSelect_spec hsel) (hQ oi.dst v) r.length listed a w hsh (Region.free_spec hi hf) hr' hy hSw (vJ hsel hQ r _ _ w (hsh.set hr') hB' (fun d hd hl=>hS d hd (Dc hl (mem_ready.1 hr').1)) h)
 |(i,true) :: r,listed,a,w,hsh,hB,hS,h=>by
  simp only[sO,Bool.and_eq_true,decide_eq_true_eq]at hB;refine⟨fun h0=>(by rw[hB.1]at h0;cases h0),fun j hj=>?_⟩;rw[hB.1]at hj;(obtain rfl:j=i:=by simpa using hj);have hj':j∈Region.ready md ops listed:=(by rw[hB.1];simp);refine wpOp_mono (fun a' w' h3=>⟨h3.1.pres,vJ hsel hQ r _ a' w' (hsh.set hj') hB.2 (fun d hd hu=>?_) h3.2⟩) h;have hu0:listed.getD d true=false:=Dc hu (mem_ready.1 hj').1;refine h3.1.pres d hd ?_ (hS d hd hu0);cases hw:waits md ops 12 j d with
  |false=>rfl
  |true=>
   obtain⟨_,oj,Js,hall⟩:=mem_ready.1 hj';have h1:=getD_set_true (i:=j) (mJ hsh 12 j (fun o ho x hx hb=>by
    have:o=oj:=Option.some.inj (ho.symm.trans Js);subst this;exact hall x hx hb) hw)
   rw[getD_both hu]at h1;cases h1
theorem dz {id:Nat} {a:Act} {w:World} {l:List Oper} (D:List Nat) (ord:List (Nat×Bool)) (hm:P.follows .mixedOrders=true) (hsel:Region.noSelect l.toArray=true) (hQ:∀ (d:Option Tmp) (v:Value) c a w,Q (.panic c) (a.put d v) w→Q (.panic c) a w) (hn:ord.length=l.length) (hB:sO .any l.toArray D (Array.replicate l.toArray.size false) ord=true) (hS:ET S w.drew D) (h:kM P .any l.toArray S Q D ord a w.drew):(Code.region id l.toArray true).wp P Q a w:=by
 refine wp_region_any hm ?_;have:=FQ _ _ _ _ (vJ (P:=P) (md:= .any) hsel hQ ord _ a w.drew (fun j oj _ hl=>(by rw[getD_replicate_false]at hl;cases hl)) hB (fun d hd _=>hS.mem d hd) h);rw[hn]at this;simpa using this
theorem gb {a:Act} {w:World} (h:Q .normal a w):kM P md ops S Q D [] a w:=h
theorem VX (ns:List Nat) {i:Nat} {oi:Oper} {r:List (Nat×Bool)} {a:Act} {w:World} (hi:ops[i]? =some oi) (hn:left md ops D i=ns) (h:∀ K':Act→World→Prop,Shut (∀ a w,ET S w ns→kM P md ops S Q D r a w→K' a w)→if Region.wanted oi (yielded ops a.tmps)=true then Oper.wp P oi a w K' Q else K' (a.put oi.dst undef) w):kM P md ops S Q D ((i,true) :: r) a w:=by
 subst hn;exact wpOp_step hi (fun K' hK=>h K' (fun a w hS hW=>hK a w ⟨hS,hW⟩))
end
end
section
section
variable {P:Program} {ops:Array Oper} {md:Region.Mode} {Q:Exit→Act→World→Prop} {Inv:(Nat→Bool)→Act→World→Prop}
def upd (L:Nat→Bool) (j:Nat):Nat→Bool:=fun i=>if i=j then true else L i
def QH (P:Program) (md:Region.Mode) (ops:Array Oper) (Q:Exit→Act→World→Prop) (Inv:(Nat→Bool)→Act→World→Prop) (j:Nat):Prop:=
 ∀ oi,ops[j]? =some oi→∀ (L:Nat→Bool) (a:Act) (w:World),L j=false→(∀ e∈oi.after,Region.binds md e=true→L e.on=true)→Inv L a w→
  ∀ K':Act→World→Prop,Shut (∀ a' w',Inv (upd L j) a' w'→K' a' w')→if Region.wanted oi (yielded ops a.tmps)=true then Oper.wp P oi a w K' Q else K' (a.put oi.dst undef) w
def acyc (md:Region.Mode) (ops:Array Oper):Bool:=(List.range ops.size).all fun j=>((ops[j]?).map fun o=>o.after.all fun e=> !Region.binds md e||decide (e.on<j)).getD true
theorem QI (h:acyc md ops=true) {j:Nat} {o:Oper} (hj:ops[j]? =some o):∀ e∈o.after,Region.binds md e=true→e.on<j:=by
 have hlt:j<ops.size:=(Array.getElem?_eq_some_iff.1 hj).1;have h1:=List.all_eq_true.1 h j (List.mem_range.2 hlt);rw[hj]at h1;simp only[Option.map_some,Option.getD_some]at h1;intro e he hb;have:=Array.all_eq_true_iff_forall_mem.1 h1 e he;rw[hb]at this;simpa using this
theorem Ah {p q:Nat→Bool} {j:Nat} (hpq:∀ i,q i=true→p i=true) (hp:p j=true) (hq:q j=false):∀ l:List Nat,j∈l→l.countP q<l.countP p
 |[],h=>by cases h
 |x :: t,h=>by
  have hm:t.countP q≤t.countP p:=List.countP_mono_left fun i _=>hpq i;rw[List.countP_cons,List.countP_cons];by_cases e:x=j
  (·subst e;rw[hp,hq];simp;omega);have ih:=Ah hpq hp hq t (by rcases List.mem_cons.1 h with r|r;exact absurd r.symm e;exact r);have:=hpq x;cases hx:q x with
  |true=>rw[this hx];simp;omega
  |false=>cases p x<;>simp<;>omega
theorem Np (hac:acyc md ops=true) (hs:∀ j,j<ops.size→QH P md ops Q Inv j) (he:∀ L a w,(∀ j,j<ops.size→L j=true)→Inv L a w→Q .normal a w):∀ (f:Nat) (listed:Array Bool) (a:Act) (w:World),listed.size=ops.size→Inv (fun i=>listed.getD i false) a w→(List.range ops.size).countP (fun i=> !listed.getD i false)≤f→wpAny P md ops Q f listed a w:=by
 have hend:∀ (listed:Array Bool) (a:Act) (w:World),listed.size=ops.size→Inv (fun i=>listed.getD i false) a w→Region.ready md ops listed=[]→Q .normal a w:=by
  intro listed a w hz hI hr;refine he _ a w (fun j hj=>?_) hI;induction j using Nat.strongRecOn with
  |_ j ih=>
   cases hl:listed.getD j false with
   |true=>rfl
   |false=>
    have hm:j∈Region.ready md ops listed:=mem_ready.2 ⟨by
     rw[Array.getD_eq_getD_getElem?]at hl ⊢;rw[Array.getElem?_eq_getElem af]at hl ⊢;exact hl,_,Array.getElem?_eq_getElem hj,fun e hm hb=>ih e.on (QI hac (Array.getElem?_eq_getElem hj) e hm hb) (by
      have:=QI hac (Array.getElem?_eq_getElem hj) e hm hb;omega)⟩
    rw[hr]at hm;cases hm
 intro f;induction f with
 |zero=>
  intro listed a w hz hI hc;have hr:Region.ready md ops listed=[]:=by
   cases hx:Region.ready md ops listed with
   |nil=>rfl
   |cons j t=>
    obtain⟨h1,o,ho,_⟩:=mem_ready.1 (show j∈Region.ready md ops listed by rw[hx];simp);have h2:=List.countP_eq_zero.1 (Nat.le_zero.1 hc) j (List.mem_range.2 (Array.getElem?_eq_some_iff.1 ho).1);rw[getD_both h1]at h2;simp at h2
  exact⟨hr,hend listed a w hz hI hr⟩
 |succ f ih=>
  intro listed a w hz hI hc;refine⟨fun hr=>hend listed a w hz hI hr,fun j hj=>?_⟩;obtain⟨h1,o,ho,hall⟩:=mem_ready.1 hj;have hlt:=(Array.getElem?_eq_some_iff.1 ho).1;refine wpOp_step ho (fun K' hK=>hs j hlt o ho _ a w (getD_both h1) hall hI K' (fun a' w' hI'=>hK a' w' (ih _ a' w' (by simpa using hz) ?_ ?_)))
  ·have e:(fun i=>(listed.setIfInBounds j true).getD i false)=upd (fun i=>listed.getD i false) j:=by
    funext i;unfold upd;by_cases q:i=j
    (·subst q;simp[hz,hlt]);rw[if_neg q,getD_set_ne false (Ne.symm q)]
   rw[e];exact hI'
  have U_:(List.range ops.size).countP (fun i=> !(listed.setIfInBounds j true).getD i false)<(List.range ops.size).countP (fun i=> !listed.getD i false):=by
   refine Ah (j:=j) (fun i hi=>?_) (by rw[getD_both h1];rfl) (by simp[hz,hlt]) _ (List.mem_range.2 hlt);by_cases q:i=j
   (·subst q;rw[getD_both h1];rfl)
   (·rwa [getD_set_ne false (Ne.symm q)]at hi)
  omega
def Hr (P:Program) (md:Region.Mode) (ops:Array Oper) (Q:Exit→Act→World→Prop) (Inv:(Nat→Bool)→Act→World→Prop):Nat→Prop
 |0=>True
 |n+1=>Hr P md ops Q Inv n∧QH P md ops Q Inv n
theorem Hr.at:∀ {n:Nat},Hr P md ops Q Inv n→∀ j,j<n→QH P md ops Q Inv j
 |0,_,j,h=>by omega
 |n+1,hs,j,h=>by
  by_cases e:j=n
  (·subst e;exact hs.2);exact hs.1.at j af
theorem cO {j:Nat} {oi:Oper} (hi:ops[j]? =some oi) (h:∀ (L:Nat→Bool) (a:Act) (w:World),L j=false→(∀ e∈oi.after,Region.binds md e=true→L e.on=true)→Inv L a w→
 ∀ K':Act→World→Prop,Shut (∀ a' w',Inv (upd L j) a' w'→K' a' w')→if Region.wanted oi (yielded ops a.tmps)=true then Oper.wp P oi a w K' Q else K' (a.put oi.dst undef) w):QH P md ops Q Inv j:=fun o ho=>by
 rw[hi]at ho
 cases ho
 exact h
theorem pF {id:Nat} {a:Act} {w:World} {l:List Oper} (J:Act→(Nat→Bool)→Act→World→Prop) (hm:P.follows .mixedOrders=true) (hac:acyc .any l.toArray=true) (hI:J a (fun _=>false) a w.drew) (hs:Hr P .any l.toArray Q (J a) l.length) (he:∀ L a' w,(∀ j,j<l.toArray.size→L j=true)→J a L a' w→Q .normal a' w):(Code.region id l.toArray true).wp P Q a w:=by
 refine wp_region_any hm ?_;refine Np hac (fun j hj=>hs.at j bB) he _ _ a w.drew aj ?_ ?_
 ·have e:(fun i=>(Array.replicate l.toArray.size false).getD i false)=fun _=>false:=by
   funext i;rw[Array.getD_eq_getD_getElem?,Array.getElem?_replicate];split<;>rfl
  rw[e];exact hI
 exact Nat.le_trans List.countP_le_length aj
end
end
end Go.Proofs.YtkfofnjfihfgkaaGreatDoor
namespace Go.Proofs.YtkfofnjfihfgkaaGreatDoor
open Go Go.RowKit Go.Proofs Sh Kb
section
def NB (bp:Bool) (up:Value) (b:Nat):Prop:=bp=true→up≠ .pointer (bS b 0)
def xD:List Value:=(gh)
structure dX (wr:World) (r:Int×bY) (bm bt bv be bc bp bs br:Bool) (um ut uv ue uc up ur:Value) (W:World):Prop where
 bU:Below wr wr W
 m:bm=true→bt=false→∃ m,um= .agg (cn m gP).toArray∧cB W Any m gP
 t:bt=true→∃ z,ut= .tuple #[.agg (cn z r.2).toArray,bR r.1]∧cB W (NB bp up) z r.2
 v:bv=true→∃ z,uv= .tuple #[.agg (cn z r.2).toArray,bR r.1]∧cB W (NB bp up) z r.2
 e:be=true→∃ z,ue= .agg (cn z r.2).toArray∧cB W (NB bp up) z r.2
 c:bc=true→uc=bR r.1
 p:bp=true→∃ q,up= .pointer (bS q 0)∧wr.heap.size≤q∧q<W.heap.size∧(bs=false→cH W q 31 xD)∧(bs=true→∃ z,cH W q 31 (cn z r.2)∧cB W (NB bp up) z r.2)
 r:br=true→ur=bR r.1
 sp:bs=true→bp=true
 cv:bv=true→bt=true
 ce:be=true→bv=true
 cs:bs=true→be=true
theorem VY (W:World) (q:Nat) (v0 v1 v2 v3 v4 v5 v6 v7 v8:Value):cA (fun b=>b≠q) W (((((((((W.setCell (bS q 0) v0).setCell (bS q 1) v1).setCell (bS q 2) v2).setCell (bS q 3) v3).setCell (bS q 4) v4).setCell (bS q 5) v5).setCell (bS q 6) v6).setCell (bS q 7) v7).setCell (bS q 8) v8)∧(∀ B,B≤q→Below B W (((((((((W.setCell (bS q 0) v0).setCell (bS q 1) v1).setCell (bS q 2) v2).setCell (bS q 3) v3).setCell (bS q 4) v4).setCell (bS q 5) v5).setCell (bS q 6) v6).setCell (bS q 7) v7).setCell (bS q 8) v8))∧∀ t c0 c1 c2 c3 c4 c5 c6 c7 c8,cH W q t [c0,c1,c2,c3,c4,c5,c6,c7,c8]→cH (((((((((W.setCell (bS q 0) v0).setCell (bS q 1) v1).setCell (bS q 2) v2).setCell (bS q 3) v3).setCell (bS q 4) v4).setCell (bS q 5) v5).setCell (bS q 6) v6).setCell (bS q 7) v7).setCell (bS q 8) v8) q t [v0,v1,v2,v3,v4,v5,v6,v7,v8]:=by
 refine⟨?_,fun B hB=>?_,fun t c0 c1 c2 c3 c4 c5 c6 c7 c8 h=>?_⟩
 (·(repeat refine lK ?_ aj);exact⟨Nat.le_refl _,fun _ _ _=>rfl⟩)
 (·(repeat refine Below.setCell ?_ (by exact hB) _);exact Below.refl _ _);exact((((((((h.cM 0 v0).cM 1 v1).cM 2 v2).cM 3 v3).cM 4 v4).cM 5 v5).cM 6 v6).cM 7 v7).cM 8 v8
section
variable {wr W W':World} {r:Int×bY} {bm bt bv be bc bp bs br:Bool} {um ut uv ue uc up ur:Value}
theorem dX.turn (h:dX wr r bm bt bv be bc bp bs br um ut uv ue uc up ur W) (hb:Below W W W'):dX wr r bm bt bv be bc bp bs br um ut uv ue uc up ur W' where
 bU:=h.bU.trans (hb.mono h.bU.size)
 m:=fun q q'=>by obtain⟨m,e,k⟩:=h.m q q';exact⟨m,e,k.bU hb⟩
 t:=fun q=>by obtain⟨m,e,k⟩:=h.t q;exact⟨m,e,k.bU hb⟩
 v:=fun q=>by obtain⟨m,e,k⟩:=h.v q;exact⟨m,e,k.bU hb⟩
 e:=fun q=>by obtain⟨m,e,k⟩:=h.e q;exact⟨m,e,k.bU hb⟩
 c:=h.c
 p:=fun q=>by
  obtain⟨q,e,h1,h2,h3,h4⟩:=h.p q;exact⟨q,e,h1,Nat.lt_of_lt_of_le h2 hb.size,fun k=>(h3 k).bU hb h2,fun k=>by obtain⟨z,k1,k2⟩:=h4 k;exact⟨z,k1.bU hb h2,k2.bU hb⟩⟩
 r:=h.r
 sp:=h.sp
 cv:=h.cv
 ce:=h.ce
 cs:=h.cs
theorem dX.start:dX wr r false false false false false false false false um ut uv ue uc up ur wr.drew:=
 ⟨(Below.refl _ wr).drew,fun q=>aU,fun q=>aU,fun q=>aU,fun q=>aU,fun q=>aU,fun q=>aU,fun q=>aU,fun q=>aU,fun q=>aU,fun q=>aU,fun q=>aU⟩
theorem dX.mill {m:dU} (h:dX wr r bm bt bv be bc bp bs br um ut uv ue uc up ur W) (hb:Below W W W') (hI:cB W' (fun b=>W.heap.size≤b) m gP):dX wr r true bt bv be bc bp bs br (.agg (cn m gP).toArray) ut uv ue uc up ur W':=
 {h.turn hb with m:=fun _ _=>⟨m,rfl,hI.all⟩}
theorem dX.made {z:dU} (h:dX wr r bm bt bv be bc bp bs br um ut uv ue uc up ur W) (hb:Below W W W') (hI:cB W' (fun b=>W.heap.size≤b) z r.2):dX wr r bm true bv be bc bp bs br um (.tuple #[.agg (cn z r.2).toArray,bR r.1]) uv ue uc up ur W':=
 {h.turn hb with m:=fun _ q=>aU,cv:=fun _=>rfl,t:=fun _=>⟨z,rfl,hI.mono fun b _ hs q e=>by
  obtain⟨g,hg,_,h2,_⟩:=h.p q;rw[hg]at e;injection e with e;injection e with e;injection e with e;omega⟩}
theorem dX.mv (h:dX wr r bm bt bv be bc bp bs br um ut uv ue uc up ur W) (ht:bt=true):dX wr r bm bt true be bc bp bs br um ut ut ue uc up ur W:={h with v:=fun _=>h.t ht,cv:=fun _=>ht,ce:=fun _=>rfl}
theorem dX.ex {z:dU} (h:dX wr r bm bt bv be bc bp bs br um ut uv ue uc up ur W) (hv:bv=true) (hz:cB W (NB bp up) z r.2):dX wr r bm bt bv true bc bp bs br um ut uv (.agg (cn z r.2).toArray) uc up ur W:={h with e:=fun _=>⟨z,rfl,hz⟩,ce:=fun _=>hv,cs:=fun _=>rfl}
theorem dX.co (h:dX wr r bm bt bv be bc bp bs br um ut uv ue uc up ur W):dX wr r bm bt bv be true bp bs br um ut uv ue (bR r.1) up ur W:={h with c:=fun _=>rfl}
theorem dX.rs (h:dX wr r bm bt bv be bc bp bs br um ut uv ue uc up ur W) (hc:bc=true):dX wr r bm bt bv be bc bp bs true um ut uv ue uc up uc W:={h with r:=fun _=>h.c hc}
theorem dX.box (h:dX wr r bm bt bv be bc bp bs br um ut uv ue uc up ur W) (hp:bp=false):dX wr r bm bt bv be bc true bs br um ut uv ue uc (.pointer (bS W 0)) ur (W.alloc (.cells xD.toArray 31)):=by
 have hs0:bs=false:=by
  cases hq:bs with
  |false=>rfl
  |true=>have:=h.sp hq;rw[hp]at this;cases this
 subst hp hs0;have hb:Below W W (W.alloc (.cells xD.toArray 31)):=cJ _;have k:=h.turn hb;have hn:∀ {z:dU},cB W (NB false up) z r.2→cB (W.alloc (.cells xD.toArray 31)) (NB true (.pointer (bS W 0))) z r.2:=fun hs=>(hs.mono (S':=NB true (.pointer (bS W 0))) fun b hlt _ _ e=>by
  injection e with e;injection e with e;injection e with e;omega).bU hb
 exact⟨k.bU,k.m,fun q=>(by obtain⟨z,e,hs⟩:=h.t q;exact⟨z,e,hn hs⟩),fun q=>(by obtain⟨z,e,hs⟩:=h.v q;exact⟨z,e,hn hs⟩),fun q=>(by obtain⟨z,e,hs⟩:=h.e q;exact⟨z,e,hn hs⟩),k.c,
  fun _=>⟨W.heap.size,rfl,h.bU.size,by simp,fun _=>heap_alloc_new W _,fun q=>aU⟩,k.r,fun q=>aU,h.cv,h.ce,fun q=>aU⟩
theorem dX.put {z:dU} {q:Nat} (h:dX wr r bm bt bv be bc bp bs br um ut uv ue uc (.pointer (bS q 0)) ur W) (ht:bt=true) (he:be=true) (hp:bp=true) (hz:cB W (NB bp (.pointer (bS q 0))) z r.2) (hq:wr.heap.size≤q) (hw:cA (fun b=>b≠q) W W') (iM:Below wr W W') (hk:cH W' q 31 (cn z r.2)):dX wr r bm bt bv be bc bp true br um ut uv ue uc (.pointer (bS q 0)) ur W':=by
 subst ht hp;have hn:∀ {z:dU},cB W (NB true (.pointer (bS q 0))) z r.2→cB W' (NB true (.pointer (bS q 0))) z r.2:=fun hs=>hs.keep ⟨hw.1,fun b hb hs=>hw.2 b hb fun e=>hs rfl (by rw[e])⟩;exact⟨h.bU.trans iM,fun _ q=>aU,fun q=>(by obtain⟨z,e,hs⟩:=h.t q;exact⟨z,e,hn hs⟩),fun q=>(by obtain⟨z,e,hs⟩:=h.v q;exact⟨z,e,hn hs⟩),fun q=>(by obtain⟨z,e,hs⟩:=h.e q;exact⟨z,e,hn hs⟩),h.c,
  fun _=>⟨q,rfl,hq,hk.lt,fun e=>(by cases e),fun _=>⟨z,hk,hn hz⟩⟩,h.r,fun _=>rfl,h.cv,h.ce,fun _=>he⟩
theorem dX.grown {row:Option Nat} (h:dX wr r bm bt bv be bc bp bs br um ut uv ue uc up ur W) (hm:bm=false) (ht:bt=false) (hg:W.grownBy W' row) (hr:∀ g,row=some g→wr.heap.size≤g) (hn:∀ g,row=some g→NB bp up g) (hb:Below wr W W'):dX wr r bm bt bv be bc bp bs br um ut uv ue uc up ur W':=by
 subst hm ht;have hv:bv=false:=by cases hq:bv with
  |false=>rfl
  |true=>have:=h.cv hq;cases this
 have he:be=false:=by cases hq:be with
  |false=>rfl
  |true=>have:=h.ce hq;rw[hv]at this;cases this
 have hs:bs=false:=by cases hq:bs with
  |false=>rfl
  |true=>have:=h.cs hq;rw[he]at this;cases this
 subst hv he hs;exact⟨h.bU.trans hb,fun q=>aU,fun q=>aU,fun q=>aU,fun q=>aU,h.c,
  fun hp=>(by
   obtain⟨q,e,h1,h2,h3,_⟩:=h.p hp;exact⟨q,e,h1,Nat.lt_of_lt_of_le h2 hg.size,fun k=>jl hg (fun e2=>hn q e2.symm hp e) (h3 k),fun k=>(by cases k)⟩),h.r,fun q=>aU,fun q=>aU,fun q=>aU,fun q=>aU⟩
end
end
def Hs (nm a b f p cu:ByteArray) (e:cD):bY:=⟨nm,[],[⟨a,bs [107,103],bs []⟩],[],[],[⟨b,cu,e⟩],[⟨f,bs [107,103],5⟩],[],[⟨bs [99,111,50],[⟨8,[p],[],bs [],[],0⟩]⟩]⟩
theorem xE {nm a b f p cu:ByteArray} {e:cD} (h1:Ms nm) (h2:Ms a) (h3:Ms b) (h4:Ms f) (h5:Ms p) (h6:Ms cu) (h7:GJ e):fe (Hs nm a b f p cu e) where
 name:=h1
 imports:=fun x hx=>by cases hx
 inputs:=fun x hx=>by obtain rfl:=List.mem_singleton.1 hx;exact⟨h2,by show 2≤maxLen;decide,by show 0≤maxLen;decide⟩
 tables:=fun x hx=>by cases hx
 funcs:=fun x hx=>by cases hx
 cells:=fun x hx=>by obtain rfl:=List.mem_singleton.1 hx;exact⟨h3,h6,h7⟩
 b9:=fun x hx=>by obtain rfl:=List.mem_singleton.1 hx;exact⟨h4,by show 2≤maxLen;decide⟩
 stores:=fun x hx=>by cases hx
 bX:=fun x hx=>by
  obtain rfl:=List.mem_singleton.1 hx;refine⟨by show 3≤maxLen;decide,by show 1≤maxLen;decide,fun y hy=>?_⟩;obtain rfl:=List.mem_singleton.1 hy;exact⟨⟨fun s hs=>by obtain rfl:=List.mem_singleton.1 hs;exact h5,by show 1≤maxLen;decide⟩,⟨fun s hs=>(by cases hs),by show 0≤maxLen;decide⟩,by show 0≤maxLen;decide,⟨fun s hs=>(by cases hs),by show 0≤maxLen;decide⟩⟩
 len:=by show 4≤1000000000000;decide
def sumE (a:ByteArray):cD:= .mk 6 0 (bs []) (bs []) [.mk 1 0 (bs []) a [],.mk 0 2 (bs [107,103]) (bs []) []]
theorem Nq {a:ByteArray} (h:Ms a):GJ (sumE a):=by
 (have h0:Ms (bs []):=by show 0≤maxLen;decide);(have h2:Ms (bs [107,103]):=by show 2≤maxLen;decide);exact⟨h0,h0,⟨h0,h,trivial⟩,⟨h2,h0,trivial⟩,trivial⟩
def QJ:cD:= .mk 1 0 (bs []) (bs [97]) []
theorem QK:GJ QJ:=⟨by show 0≤maxLen;decide,by show 1≤maxLen;decide,trivial⟩
def oI (nm un:ByteArray):cL:=⟨nm,un,QJ⟩
def xS:bY:=Hs (bs [109,105,108,108]) (bs [120,95,97]) (bs [120,95,98]) (bs [120,95,102]) (bs [120,95,112]) (bs [107,103]) (sumE (bs [120,95,97]))
def yS:bY:=Hs (bs [109,105,108,108]) (bs [121,95,97]) (bs [121,95,98]) (bs [121,95,102]) (bs [121,95,112]) (bs [107,103]) (sumE (bs [121,95,97]))
def oS:bY:=Hs (bs [109,105,108,108]) (bs [97]) (bs [98]) (bs [102]) (bs [112]) (bs [116]) QJ
theorem oL:fe gP:=xE (nm:=bs [109,105,108,108]) (a:=bs [97]) (b:=bs [98]) (f:=bs [102]) (p:=bs [112]) (cu:=bs [107,103]) (e:=sumE (bs [97])) (by show 4≤maxLen;decide) aL aL aL aL (by show 2≤maxLen;decide) (Nq aL)
theorem sm_x:fe xS:=xE (by show 4≤maxLen;decide) aZ aZ aZ aZ (by show 2≤maxLen;decide) (Nq aZ)
theorem sm_y:fe yS:=xE (by show 4≤maxLen;decide) aZ aZ aZ aZ (by show 2≤maxLen;decide) (Nq aZ)
theorem sm_o:fe oS:=xE (by show 4≤maxLen;decide) aL aL aL aL aL QK
theorem pre_x:dG gP (bs [120])=(0,xS):=by kernel_rfl
theorem pre_y:dG gP (bs [121])=(0,yS):=by kernel_rfl
theorem pre_l:(dG gP (bs [97,98,99,100,101,102,103,104,105,106,107,108,109,110,111,112,113,114,115])).1=6:=by decide+kernel
theorem join_mm:(eM gP gP).1=5:=by decide+kernel
theorem join_my:(eM gP yS).1=0:=by decide+kernel
theorem Nr:(eM gP yS).2.cells.length=2:=by decide+kernel
def VZ:cw:=⟨bs [99,111,50],[⟨8,[bs [112]],[],bs [],[],0⟩,⟨8,[bs [121,95,112]],[],bs [],[],0⟩]⟩
theorem rec_len:∀ y∈VZ.steps,y.inp.length≤1000000000∧y.o.length≤1000000000∧y.cells.length≤1000000000:=by decide+kernel
theorem xF:(eM gP yS).2.bX=[VZ]:=by kernel_rfl
theorem pr_x:yq xS=some ([115,104,101,101,116,32,109,105,108,108,32,123,32,105,110,112,117,116,32,120,95,97,32,34,107,103,34,32,59,32,99,101,108,108,32,120,95,98,32,34,107,103,34,32,61,32,120,95,97,32,43,32,50].append [32,34,107,103,34,32,59,32,112,111,114,116,32,120,95,102,32,34,107,103,34,32,53,32,59,32,114,101,99,105,112,101,32,99,111,50,32,123,32,114,101,115,116,32,120,95,112,32,59,32,125,32,125]):=by kernel_rfl
theorem pr_o:yq oS=some ([115,104,101,101,116,32,109,105,108,108,32,123,32,105,110,112,117,116,32,97,32,34,107,103,34,32,59,32,99,101,108,108,32,98,32,34,116,34,32,61,32,97,32].append [59,32,112,111,114,116,32,102,32,34,107,103,34,32,53,32,59,32,114,101,99,105,112,101,32,99,111,50,32,123,32,114,101,115,116,32,112,32,59,32,125,32,125]):=by kernel_rfl
theorem Ht {nm un:ByteArray} (h1:Ms nm) (h2:Ms un):∀ c∈[oI nm un],vt c:=fun c hc=>by obtain rfl:=List.mem_singleton.1 hc;exact⟨h1,h2,QK⟩
theorem vK {nm un:ByteArray}:∀ c∈[oI nm un],cU c.iY≤1000000:=fun c hc=>by obtain rfl:=List.mem_singleton.1 hc;show cU QJ≤1000000;decide
theorem over_o:fk gP [oI (bs [98]) (bs [116])]=(0,oS):=by kernel_rfl
theorem over_j:(fk gP [oI (bs [99]) (bs [116])]).1=4:=by decide+kernel
theorem over_k:(fk gP [oI (bs [98]) (bs [107,87,104])]).1=14:=by decide+kernel
end Go.Proofs.YtkfofnjfihfgkaaGreatDoor
