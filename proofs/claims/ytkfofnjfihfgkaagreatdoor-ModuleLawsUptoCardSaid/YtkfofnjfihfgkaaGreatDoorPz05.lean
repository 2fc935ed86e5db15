/- Parts of the proof, packed (OpenM to Infs); each theorem bears its own conditions. -/
import Derived.Test.YtkfofnjfihfgkaaGreatDoorRows
import Derived.Deep.Slices
import Derived.Deep.Fields
import Derived.Deep.Strs
import Derived.ChangeSame
import Derived.ProofKit
import Derived.OpenShut
import Derived.ShutString
import Derived.ChangeOld
import Derived.Lay
import Derived.SevenTiedAt
import Derived.Test.YtkfofnjfihfgkaaGreatDoorPz04
set_option linter.unusedVariables false
set_option linter.unusedSimpArgs false
set_option maxRecDepth 100000
set_option maxHeartbeats 8000000
open Go.Proofs.Tryz
open Go.Lib renaming hid → aa
namespace Go.Proofs.YtkfofnjfihfgkaaGreatDoor
open Go Go.RowKit Go.Proofs Sh Kb Go.ChangeShapes Go.WideShapes Go.Deep Go.ChangeAt
section
set_option maxRecDepth 100000
abbrev jv {H:Type} (enc:TypeId×Value→H) (W:World) (n:Nat) (t:TypeId) (cs:List Value) (y:DataW H×List MemPlace):Prop:=DataW.trod enc prog W 0 (fun _=>true) true n t cs=some y
theorem zO {α:Type} {Q:Nat→α→Prop}:∀ (n:Nat),(∀ i,i<n→∃ x,Q i x)→∃ l:List α,l.length=n∧∀ i (h:i<l.length),Q i l[i]
 |0,_=>⟨[],rfl,fun i h=>absurd h (Nat.not_lt_zero _)⟩
 |n+1,h=>by
  obtain⟨l,hl,hq⟩:=zO n (fun i hi=>h i af);obtain⟨x,hx⟩:=h n af;refine⟨l++[x],by simp[hl],fun i hi=>?_⟩;by_cases e:i<l.length
  (·rw[List.getElem_append_left e];exact hq i e);(have:i=n:=by simp at hi;omega);subst this;rw[List.getElem_append_right af];simpa [hl]using hx
theorem UQ {H:Type} (d:DataW H):1≤Rows.uptoBulk d:=by
 cases d with
 |lit l=>cases l<;>simp[Rows.uptoBulk]
 |_=>simp[Rows.uptoBulk]
theorem JD {H:Type}:∀ (l:List Nat) (ds:List (DataW H)),l.length=ds.length→(∀ (i:Nat) (x:Nat) (d:DataW H),l[i]? =some x→ds[i]? =some d→x≤Rows.uptoBulk d)→l.sum≤Rows.uptoBulkAll ds
 |[],_,_,_=>by simp
 |x :: l,[],h,_=>by simp at h
 |x :: l,d :: ds,h,hi=>by
  have h0:=hi 0 x d rfl rfl;have h1:=JD l ds aO fun i x d hx hd=>hi (i+1) x d (by simpa using hx) (by simpa using hd);simp only[List.sum_cons,Rows.uptoBulkAll];omega
section
variable {H:Type} {enc:TypeId×Value→H} {W:World} {fuel n:Nat} {cs:List Value} {y:DataW H×List MemPlace}
theorem iq {α:Type} (R:Rel α) (m:α→Nat) {t e:TypeId} (ht:Tryz.prog.underlying t=some (.slice e)) (hk:Tryz.prog.cellsOf e=R.k) (hk0:0<R.k) (He:∀ n,n<fuel→∀ cs y,jv enc W n e cs y→∃ x,R.is W Any cs x∧m x≤Rows.uptoBulk y.1) (h:jv enc W fuel t cs y):∃ A c xs,cs=[.slice A xs.length c]∧Sq R W Any A xs∧(xs.map m).sum+1≤Rows.uptoBulk y.1∧xs.length≤maxLen:=by
 rcases DataW.trod_slice ht h with⟨rfl,rfl⟩|⟨a,len,cap,elems,rest,n',hn,rfl,rfl,hb,hl,hm,hlen,hel,hsp,hns⟩
 (·exact⟨none,0,[],rfl,Sq.nil,by simp[Rows.uptoBulk],Nat.zero_le _⟩);have hQ:∀ i,i<len→∃ p:List Value×α,W.cells? 0 (a.add (i*R.k)) R.k=some p.1∧R.is W Any p.1 p.2∧∀ d,(elems.map (·.1))[i]? =some d→m p.2≤Rows.uptoBulk d:=fun i hi=>by
  have h1:=hel i hi;rw[List.getElem?_eq_getElem af,hk]at h1;obtain⟨cs',hc,ht'⟩:=Option.bind_eq_some_iff.1 h1;obtain⟨x,hx,hmx⟩:=He n' af cs' _ ht';refine⟨(cs',x),hc,hx,fun d hd=>?_⟩;rw[List.getElem?_map,List.getElem?_eq_getElem af]at hd;obtain rfl:=Option.some.inj hd;exact hmx
 obtain⟨l,hll,hq⟩:=zO len hQ;have hsum:((l.map (·.2)).map m).sum≤Rows.uptoBulkAll (elems.map (·.1)):=JD _ _ (by simp[hll,hlen]) fun i x d hx hd=>by
  rw[List.getElem?_map,List.getElem?_map]at hx;obtain⟨z,hz,rfl⟩:=Option.map_eq_some_iff.1 hx;obtain⟨p,hp,rfl⟩:=Option.map_eq_some_iff.1 hz;obtain⟨hi,e⟩:=List.getElem?_eq_some_iff.1 hp;have:=(hq i hi).2.2 d hd;rw[e]at this;exact this
 refine⟨some a,cap,l.map (·.2),by simp[hll],⟨l.map (·.1),by simp,fun hne=>?_,fun j cs x hc hx=>?_⟩,by simp only[Rows.uptoBulk];omega,by simp;omega⟩
 ·have h0:0<l.length:=by
   cases l with
   |nil=>exact absurd rfl hne
   |cons p r=>simp
  obtain⟨_,dn,hat⟩:=World.cells?_some (hq 0 h0).1;have hc0:=hat 0 hk0;rw[List.getElem?_eq_getElem af]at hc0;obtain⟨b,off,spot⟩:=a;have hspot:spot=none:=(by simpa [Addr.add]using World.cell?_spot hc0);subst hspot;refine⟨b,off,rfl,trivial,by simpa [Addr.add_lit]using block_lt_of_cell hc0,fun j cs hj i v hv=>?_⟩;rw[List.getElem?_map]at hj;obtain⟨p,hp,rfl⟩:=Option.map_eq_some_iff.1 hj;obtain⟨hi,e⟩:=List.getElem?_eq_some_iff.1 hp;obtain⟨_,dn,hat⟩:=World.cells?_some (hq j hi).1;rw[e]at dn hat;have:=hat i (by rw[← dn];exact(List.getElem?_eq_some_iff.1 hv).1);rw[hv,Addr.add_lit,Addr.add_lit]at this;exact this
 rw[List.getElem?_map]at hc hx;obtain⟨p,hp,rfl⟩:=Option.map_eq_some_iff.1 hc;rw[hp]at hx;obtain rfl:=Option.some.inj hx;obtain⟨hi,e⟩:=List.getElem?_eq_some_iff.1 hp;have:=(hq j hi).2.1;rw[e]at this;exact this
theorem cS {fs:Array Field} {xs:List (DataW H×List MemPlace)} {i k o:Nat} {T:TypeId} {seg:List Value} (hf:∀ (i:Nat) (f:Field),fs[i]? =some f→DataW.trod enc prog W 0 (fun _=>true) true n f.type ((cs.drop f.offset).take (Tryz.prog.cellsOf f.type))=xs[i]?) (hi:fs[i]?.map (fun f=>(f.type,f.offset))=some (T,o)) (hk:Tryz.prog.cellsOf T=k) (hs:(cs.drop o).take k=seg) (hy:xs[i]? =some y):jv enc W n T seg y:=by
 obtain⟨f,hff,e⟩:=Option.map_eq_some_iff.1 hi;obtain⟨rfl,rfl⟩:=Prod.mk.inj e;have:=hf i f hff;rw[hk,hs,hy]at this;exact this
theorem eN (h:jv enc W fuel 9 cs y):∃ s,cs=[bV s]∧s.size+1≤Rows.uptoBulk y.1:=by
 obtain⟨s,rfl,rfl,_⟩:=DataW.trod_string Tryz.underlying9 h;exact⟨s,rfl,by simp[Rows.uptoBulk]⟩
theorem ji (h:jv enc W fuel 3 cs y):∃ s,cs=[bR s]∧1≤Rows.uptoBulk y.1:=by
 obtain⟨s,rfl,_⟩:=DataW.trod_int Tryz.underlying3 h;exact⟨s,rfl,UQ _⟩
theorem open_strs (h:jv enc W fuel 63 cs y):∃ A c xs,cs=[.slice A xs.length c]∧Sq dw W Any A xs∧(xs.map mB).sum+1≤Rows.uptoBulk y.1∧xs.length≤maxLen:=
 iq dw mB Tryz.underlying63 ai ag (fun n _ cs y h=>by
  obtain⟨s,rfl,hb⟩:=eN h;exact⟨s,rfl,hb⟩) h
theorem JG (h:jv enc W fuel 143 cs y):∃ x:eL,gN.is W Any cs x∧wW x≤Rows.uptoBulk y.1:=by
 obtain⟨xs,n,hn,rfl,hl,hlen,hf⟩:=DataW.trod_struct Tryz.underlying143 h
 match xs,hlen with
 |[y0,y1,y2,y3,y4,y5],_=>
  rw[show Tryz.prog.cellsOf 143=6 by kernel_rfl]at hl
  match cs,hl with
  |[u0,u1,u2,u3,u4,u5],_=>
   have h0:jv enc W n 9 [u0] y0:=cS hf (i:=0) rfl (show Tryz.prog.cellsOf 9=1 by kernel_rfl) rfl rfl;have h1:jv enc W n 9 [u1] y1:=cS hf (i:=1) rfl (show Tryz.prog.cellsOf 9=1 by kernel_rfl) rfl rfl;have h2:jv enc W n 3 [u2] y2:=cS hf (i:=2) rfl (show Tryz.prog.cellsOf 3=1 by kernel_rfl) rfl rfl;have h3:jv enc W n 3 [u3] y3:=cS hf (i:=3) rfl (show Tryz.prog.cellsOf 3=1 by kernel_rfl) rfl rfl;have h4:jv enc W n 9 [u4] y4:=cS hf (i:=4) rfl (show Tryz.prog.cellsOf 9=1 by kernel_rfl) rfl rfl;have h5:jv enc W n 3 [u5] y5:=cS hf (i:=5) rfl (show Tryz.prog.cellsOf 3=1 by kernel_rfl) rfl rfl;obtain⟨s0,e0,b0⟩:=eN h0;obtain⟨s1,e1,b1⟩:=eN h1;obtain⟨s2,e2,b2⟩:=ji h2;obtain⟨s3,e3,b3⟩:=ji h3;obtain⟨s4,e4,b4⟩:=eN h4;obtain⟨s5,e5,b5⟩:=ji h5;simp only[Rows.uptoBulk,List.map_cons,List.map_nil,Rows.uptoBulkAll];obtain⟨rfl⟩:u0=_∧True:=⟨List.head_eq_of_cons_eq e0,trivial⟩;obtain⟨rfl⟩:u1=_∧True:=⟨List.head_eq_of_cons_eq e1,trivial⟩;obtain⟨rfl⟩:u2=_∧True:=⟨List.head_eq_of_cons_eq e2,trivial⟩;obtain⟨rfl⟩:u3=_∧True:=⟨List.head_eq_of_cons_eq e3,trivial⟩;obtain⟨rfl⟩:u4=_∧True:=⟨List.head_eq_of_cons_eq e4,trivial⟩;obtain⟨rfl⟩:u5=_∧True:=⟨List.head_eq_of_cons_eq e5,trivial⟩;exact⟨⟨s0,s1,s2,s3,s4,s5⟩,rfl,by unfold wW;(try dsimp only);omega⟩
theorem MC (h:jv enc W fuel 125 cs y):∃ x:gR,jg.is W Any cs x∧Cq x≤Rows.uptoBulk y.1:=by
 obtain⟨xs,n,hn,rfl,hl,hlen,hf⟩:=DataW.trod_struct Tryz.underlying125 h
 match xs,hlen with
 |[y0,y1,y2],_=>
  rw[show Tryz.prog.cellsOf 125=3 by kernel_rfl]at hl
  match cs,hl with
  |[u0,u1,u2],_=>
   have h0:jv enc W n 9 [u0] y0:=cS hf (i:=0) rfl (show Tryz.prog.cellsOf 9=1 by kernel_rfl) rfl rfl;have h1:jv enc W n 9 [u1] y1:=cS hf (i:=1) rfl (show Tryz.prog.cellsOf 9=1 by kernel_rfl) rfl rfl;have h2:jv enc W n 9 [u2] y2:=cS hf (i:=2) rfl (show Tryz.prog.cellsOf 9=1 by kernel_rfl) rfl rfl;obtain⟨s0,e0,b0⟩:=eN h0;obtain⟨s1,e1,b1⟩:=eN h1;obtain⟨s2,e2,b2⟩:=eN h2;simp only[Rows.uptoBulk,List.map_cons,List.map_nil,Rows.uptoBulkAll];obtain⟨rfl⟩:u0=_∧True:=⟨List.head_eq_of_cons_eq e0,trivial⟩;obtain⟨rfl⟩:u1=_∧True:=⟨List.head_eq_of_cons_eq e1,trivial⟩;obtain⟨rfl⟩:u2=_∧True:=⟨List.head_eq_of_cons_eq e2,trivial⟩;exact⟨⟨s0,s1,s2⟩,rfl,by unfold Cq;(try dsimp only);omega⟩
theorem UR (h:jv enc W fuel 153 cs y):∃ x:ym,yw.is W Any cs x∧UN x≤Rows.uptoBulk y.1:=by
 obtain⟨xs,n,hn,rfl,hl,hlen,hf⟩:=DataW.trod_struct Tryz.underlying153 h
 match xs,hlen with
 |[y0,y1],_=>
  rw[show Tryz.prog.cellsOf 153=2 by kernel_rfl]at hl
  match cs,hl with
  |[u0,u1],_=>
   have h0:jv enc W n 3 [u0] y0:=cS hf (i:=0) rfl (show Tryz.prog.cellsOf 3=1 by kernel_rfl) rfl rfl;have h1:jv enc W n 3 [u1] y1:=cS hf (i:=1) rfl (show Tryz.prog.cellsOf 3=1 by kernel_rfl) rfl rfl;obtain⟨s0,e0,b0⟩:=ji h0;obtain⟨s1,e1,b1⟩:=ji h1;simp only[Rows.uptoBulk,List.map_cons,List.map_nil,Rows.uptoBulkAll];obtain⟨rfl⟩:u0=_∧True:=⟨List.head_eq_of_cons_eq e0,trivial⟩;obtain⟨rfl⟩:u1=_∧True:=⟨List.head_eq_of_cons_eq e1,trivial⟩;exact⟨⟨s0,s1⟩,rfl,by unfold UN;(try dsimp only);omega⟩
theorem MD (h:jv enc W fuel 78 cs y):∃ x:mX,jM.is W Any cs x∧Cs x≤Rows.uptoBulk y.1:=by
 obtain⟨xs,n,hn,rfl,hl,hlen,hf⟩:=DataW.trod_struct Tryz.underlying78 h
 match xs,hlen with
 |[y0,y1],_=>
  rw[show Tryz.prog.cellsOf 78=2 by kernel_rfl]at hl
  match cs,hl with
  |[u0,u1],_=>
   have h0:jv enc W n 9 [u0] y0:=cS hf (i:=0) rfl (show Tryz.prog.cellsOf 9=1 by kernel_rfl) rfl rfl;have h1:jv enc W n 9 [u1] y1:=cS hf (i:=1) rfl (show Tryz.prog.cellsOf 9=1 by kernel_rfl) rfl rfl;obtain⟨s0,e0,b0⟩:=eN h0;obtain⟨s1,e1,b1⟩:=eN h1;simp only[Rows.uptoBulk,List.map_cons,List.map_nil,Rows.uptoBulkAll];obtain⟨rfl⟩:u0=_∧True:=⟨List.head_eq_of_cons_eq e0,trivial⟩;obtain⟨rfl⟩:u1=_∧True:=⟨List.head_eq_of_cons_eq e1,trivial⟩;exact⟨⟨s0,s1⟩,rfl,by unfold Cs;(try dsimp only);omega⟩
theorem RD (h:jv enc W fuel 127 cs y):∃ x:kO,lH.is W Any cs x∧JB x≤Rows.uptoBulk y.1:=by
 obtain⟨xs,n,hn,rfl,hl,hlen,hf⟩:=DataW.trod_struct Tryz.underlying127 h
 match xs,hlen with
 |[y0,y1,y2],_=>
  rw[show Tryz.prog.cellsOf 127=3 by kernel_rfl]at hl
  match cs,hl with
  |[u0,u1,u2],_=>
   have h0:jv enc W n 9 [u0] y0:=cS hf (i:=0) rfl (show Tryz.prog.cellsOf 9=1 by kernel_rfl) rfl rfl;have h1:jv enc W n 9 [u1] y1:=cS hf (i:=1) rfl (show Tryz.prog.cellsOf 9=1 by kernel_rfl) rfl rfl;have h2:jv enc W n 3 [u2] y2:=cS hf (i:=2) rfl (show Tryz.prog.cellsOf 3=1 by kernel_rfl) rfl rfl;obtain⟨s0,e0,b0⟩:=eN h0;obtain⟨s1,e1,b1⟩:=eN h1;obtain⟨s2,e2,b2⟩:=ji h2;simp only[Rows.uptoBulk,List.map_cons,List.map_nil,Rows.uptoBulkAll];obtain⟨rfl⟩:u0=_∧True:=⟨List.head_eq_of_cons_eq e0,trivial⟩;obtain⟨rfl⟩:u1=_∧True:=⟨List.head_eq_of_cons_eq e1,trivial⟩;obtain⟨rfl⟩:u2=_∧True:=⟨List.head_eq_of_cons_eq e2,trivial⟩;exact⟨⟨s0,s1,s2⟩,rfl,by unfold JB;(try dsimp only);omega⟩
theorem ME (h:jv enc W fuel 136 cs y):∃ x:jz,jh.is W Any cs x∧Ct x≤Rows.uptoBulk y.1:=by
 obtain⟨xs,n,hn,rfl,hl,hlen,hf⟩:=DataW.trod_struct Tryz.underlying136 h
 match xs,hlen with
 |[y0,y1,y2],_=>
  rw[show Tryz.prog.cellsOf 136=3 by kernel_rfl]at hl
  match cs,hl with
  |[u0,u1,u2],_=>
   have h0:jv enc W n 9 [u0] y0:=cS hf (i:=0) rfl (show Tryz.prog.cellsOf 9=1 by kernel_rfl) rfl rfl;have h1:jv enc W n 9 [u1] y1:=cS hf (i:=1) rfl (show Tryz.prog.cellsOf 9=1 by kernel_rfl) rfl rfl;have h2:jv enc W n 3 [u2] y2:=cS hf (i:=2) rfl (show Tryz.prog.cellsOf 3=1 by kernel_rfl) rfl rfl;obtain⟨s0,e0,b0⟩:=eN h0;obtain⟨s1,e1,b1⟩:=eN h1;obtain⟨s2,e2,b2⟩:=ji h2;simp only[Rows.uptoBulk,List.map_cons,List.map_nil,Rows.uptoBulkAll];obtain⟨rfl⟩:u0=_∧True:=⟨List.head_eq_of_cons_eq e0,trivial⟩;obtain⟨rfl⟩:u1=_∧True:=⟨List.head_eq_of_cons_eq e1,trivial⟩;obtain⟨rfl⟩:u2=_∧True:=⟨List.head_eq_of_cons_eq e2,trivial⟩;exact⟨⟨s0,s1,s2⟩,rfl,by unfold Ct;(try dsimp only);omega⟩
theorem MF (h:jv enc W fuel 104 cs y):∃ A c xs,cs=[.slice A xs.length c]∧Sq yw W Any A xs∧(xs.map UN).sum+1≤Rows.uptoBulk y.1∧xs.length≤maxLen:=
 iq yw UN Tryz.underlying104 ai ag (fun n _ cs y h=>UR h) h
theorem JH (h:jv enc W fuel 74 cs y):∃ A c xs,cs=[.slice A xs.length c]∧Sq jM W Any A xs∧(xs.map Cs).sum+1≤Rows.uptoBulk y.1∧xs.length≤maxLen:=
 iq jM Cs Tryz.underlying74 ai ag (fun n _ cs y h=>MD h) h
theorem Fp:∀ (fuel:Nat) {cs:List Value} {y:DataW H×List MemPlace},jv enc W fuel 54 cs y→∃ x:cD,cR W Any cs x∧mE x≤Rows.uptoBulk y.1:=by
 intro fuel;induction fuel using Nat.strongRecOn with
 |ind fuel ih=>
  intro cs y h
  have ihL:∀ (k:Nat) cs y,k<fuel→jv enc W k 52 cs y→∃ A c xs,cs=[.slice A xs.length c]∧Sq ja W Any A xs∧(xs.map mE).sum+1≤Rows.uptoBulk y.1∧xs.length≤maxLen:=fun k cs y hk h=>
   iq ja mE Tryz.underlying52 ai ag (fun n hn cs y h=>ih n af h) h
  obtain⟨xs,n,hn,rfl,hl,hlen,hf⟩:=DataW.trod_struct Tryz.underlying54 h
  match xs,hlen with
  |[y0,y1,y2,y3,y4],_=>
   rw[show Tryz.prog.cellsOf 54=5 by kernel_rfl]at hl
   match cs,hl with
   |[u0,u1,u2,u3,u4],_=>
    have h0:jv enc W n 3 [u0] y0:=cS hf (i:=0) rfl (show Tryz.prog.cellsOf 3=1 by kernel_rfl) rfl rfl;have h1:jv enc W n 3 [u1] y1:=cS hf (i:=1) rfl (show Tryz.prog.cellsOf 3=1 by kernel_rfl) rfl rfl;have h2:jv enc W n 9 [u2] y2:=cS hf (i:=2) rfl (show Tryz.prog.cellsOf 9=1 by kernel_rfl) rfl rfl;have h3:jv enc W n 9 [u3] y3:=cS hf (i:=3) rfl (show Tryz.prog.cellsOf 9=1 by kernel_rfl) rfl rfl;have h4:jv enc W n 52 [u4] y4:=cS hf (i:=4) rfl (show Tryz.prog.cellsOf 52=1 by kernel_rfl) rfl rfl;obtain⟨s0,e0,b0⟩:=ji h0;obtain⟨s1,e1,b1⟩:=ji h1;obtain⟨s2,e2,b2⟩:=eN h2;obtain⟨s3,e3,b3⟩:=eN h3;obtain⟨A4,c4,s4,e4,k4,b4,m4⟩:=ihL n _ _ af h4;simp only[Rows.uptoBulk,List.map_cons,List.map_nil,Rows.uptoBulkAll];obtain⟨rfl⟩:u0=_∧True:=⟨List.head_eq_of_cons_eq e0,trivial⟩;obtain⟨rfl⟩:u1=_∧True:=⟨List.head_eq_of_cons_eq e1,trivial⟩;obtain⟨rfl⟩:u2=_∧True:=⟨List.head_eq_of_cons_eq e2,trivial⟩;obtain⟨rfl⟩:u3=_∧True:=⟨List.head_eq_of_cons_eq e3,trivial⟩;obtain⟨rfl⟩:u4=_∧True:=⟨List.head_eq_of_cons_eq e4,trivial⟩;exact⟨.mk s0 s1 s2 s3 s4,cR.of k4,by rw[mE,PZ];omega⟩
theorem MG (h:jv enc W fuel 106 cs y):∃ x:eB,fO.is W Any cs x∧Cr x≤Rows.uptoBulk y.1:=by
 obtain⟨xs,n,hn,rfl,hl,hlen,hf⟩:=DataW.trod_struct Tryz.underlying106 h
 match xs,hlen with
 |[y0,y1,y2],_=>
  rw[show Tryz.prog.cellsOf 106=3 by kernel_rfl]at hl
  match cs,hl with
  |[u0,u1,u2],_=>
   have h0:jv enc W n 9 [u0] y0:=cS hf (i:=0) rfl (show Tryz.prog.cellsOf 9=1 by kernel_rfl) rfl rfl;have h1:jv enc W n 9 [u1] y1:=cS hf (i:=1) rfl (show Tryz.prog.cellsOf 9=1 by kernel_rfl) rfl rfl;have h2:jv enc W n 104 [u2] y2:=cS hf (i:=2) rfl (show Tryz.prog.cellsOf 104=1 by kernel_rfl) rfl rfl;obtain⟨s0,e0,b0⟩:=eN h0;obtain⟨s1,e1,b1⟩:=eN h1;obtain⟨A2,c2,s2,e2,k2,b2,m2⟩:=MF h2;simp only[Rows.uptoBulk,List.map_cons,List.map_nil,Rows.uptoBulkAll];obtain⟨rfl⟩:u0=_∧True:=⟨List.head_eq_of_cons_eq e0,trivial⟩;obtain⟨rfl⟩:u1=_∧True:=⟨List.head_eq_of_cons_eq e1,trivial⟩;obtain⟨rfl⟩:u2=_∧True:=⟨List.head_eq_of_cons_eq e2,trivial⟩;exact⟨⟨s0,s1,s2⟩,⟨A2,c2,rfl,k2⟩,by unfold Cr;(try dsimp only);omega⟩
theorem RF (h:jv enc W fuel 76 cs y):∃ x:eU,jb.is W Any cs x∧Jz x≤Rows.uptoBulk y.1:=by
 obtain⟨xs,n,hn,rfl,hl,hlen,hf⟩:=DataW.trod_struct Tryz.underlying76 h
 match xs,hlen with
 |[y0,y1,y2],_=>
  rw[show Tryz.prog.cellsOf 76=7 by kernel_rfl]at hl
  match cs,hl with
  |[u0,u1,u2,u3,u4,u5,u6],_=>
   have h0:jv enc W n 9 [u0] y0:=cS hf (i:=0) rfl (show Tryz.prog.cellsOf 9=1 by kernel_rfl) rfl rfl;have h1:jv enc W n 74 [u1] y1:=cS hf (i:=1) rfl (show Tryz.prog.cellsOf 74=1 by kernel_rfl) rfl rfl;have h2:jv enc W n 54 [u2,u3,u4,u5,u6] y2:=cS hf (i:=2) rfl (show Tryz.prog.cellsOf 54=5 by kernel_rfl) rfl rfl;obtain⟨s0,e0,b0⟩:=eN h0;obtain⟨A1,c1,s1,e1,k1,b1,m1⟩:=JH h1;obtain⟨s2,k2,b2⟩:=Fp _ h2;simp only[Rows.uptoBulk,List.map_cons,List.map_nil,Rows.uptoBulkAll];obtain⟨rfl⟩:u0=_∧True:=⟨List.head_eq_of_cons_eq e0,trivial⟩;obtain⟨rfl⟩:u1=_∧True:=⟨List.head_eq_of_cons_eq e1,trivial⟩;exact⟨⟨s0,s1,s2⟩,⟨A1,c1,_,rfl,k1,k2⟩,by unfold Jz;(try dsimp only);omega⟩
theorem RG (h:jv enc W fuel 56 cs y):∃ x:cL,dS.is W Any cs x∧JA x≤Rows.uptoBulk y.1:=by
 obtain⟨xs,n,hn,rfl,hl,hlen,hf⟩:=DataW.trod_struct Tryz.underlying56 h
 match xs,hlen with
 |[y0,y1,y2],_=>
  rw[show Tryz.prog.cellsOf 56=7 by kernel_rfl]at hl
  match cs,hl with
  |[u0,u1,u2,u3,u4,u5,u6],_=>
   have h0:jv enc W n 9 [u0] y0:=cS hf (i:=0) rfl (show Tryz.prog.cellsOf 9=1 by kernel_rfl) rfl rfl;have h1:jv enc W n 9 [u1] y1:=cS hf (i:=1) rfl (show Tryz.prog.cellsOf 9=1 by kernel_rfl) rfl rfl;have h2:jv enc W n 54 [u2,u3,u4,u5,u6] y2:=cS hf (i:=2) rfl (show Tryz.prog.cellsOf 54=5 by kernel_rfl) rfl rfl;obtain⟨s0,e0,b0⟩:=eN h0;obtain⟨s1,e1,b1⟩:=eN h1;obtain⟨s2,k2,b2⟩:=Fp _ h2;simp only[Rows.uptoBulk,List.map_cons,List.map_nil,Rows.uptoBulkAll];obtain⟨rfl⟩:u0=_∧True:=⟨List.head_eq_of_cons_eq e0,trivial⟩;obtain⟨rfl⟩:u1=_∧True:=⟨List.head_eq_of_cons_eq e1,trivial⟩;exact⟨⟨s0,s1,s2⟩,⟨_,rfl,k2⟩,by unfold JA;(try dsimp only);omega⟩
theorem RH (h:jv enc W fuel 65 cs y):∃ x:dV,gT.is W Any cs x∧JC x≤Rows.uptoBulk y.1:=by
 obtain⟨xs,n,hn,rfl,hl,hlen,hf⟩:=DataW.trod_struct Tryz.underlying65 h
 match xs,hlen with
 |[y0,y1,y2,y3,y4,y5],_=>
  rw[show Tryz.prog.cellsOf 65=6 by kernel_rfl]at hl
  match cs,hl with
  |[u0,u1,u2,u3,u4,u5],_=>
   have h0:jv enc W n 3 [u0] y0:=cS hf (i:=0) rfl (show Tryz.prog.cellsOf 3=1 by kernel_rfl) rfl rfl;have h1:jv enc W n 63 [u1] y1:=cS hf (i:=1) rfl (show Tryz.prog.cellsOf 63=1 by kernel_rfl) rfl rfl;have h2:jv enc W n 63 [u2] y2:=cS hf (i:=2) rfl (show Tryz.prog.cellsOf 63=1 by kernel_rfl) rfl rfl;have h3:jv enc W n 9 [u3] y3:=cS hf (i:=3) rfl (show Tryz.prog.cellsOf 9=1 by kernel_rfl) rfl rfl;have h4:jv enc W n 63 [u4] y4:=cS hf (i:=4) rfl (show Tryz.prog.cellsOf 63=1 by kernel_rfl) rfl rfl;have h5:jv enc W n 3 [u5] y5:=cS hf (i:=5) rfl (show Tryz.prog.cellsOf 3=1 by kernel_rfl) rfl rfl;obtain⟨s0,e0,b0⟩:=ji h0;obtain⟨A1,c1,s1,e1,k1,b1,m1⟩:=open_strs h1;obtain⟨A2,c2,s2,e2,k2,b2,m2⟩:=open_strs h2;obtain⟨s3,e3,b3⟩:=eN h3;obtain⟨A4,c4,s4,e4,k4,b4,m4⟩:=open_strs h4;obtain⟨s5,e5,b5⟩:=ji h5;simp only[Rows.uptoBulk,List.map_cons,List.map_nil,Rows.uptoBulkAll];obtain⟨rfl⟩:u0=_∧True:=⟨List.head_eq_of_cons_eq e0,trivial⟩;obtain⟨rfl⟩:u1=_∧True:=⟨List.head_eq_of_cons_eq e1,trivial⟩;obtain⟨rfl⟩:u2=_∧True:=⟨List.head_eq_of_cons_eq e2,trivial⟩;obtain⟨rfl⟩:u3=_∧True:=⟨List.head_eq_of_cons_eq e3,trivial⟩;obtain⟨rfl⟩:u4=_∧True:=⟨List.head_eq_of_cons_eq e4,trivial⟩;obtain⟨rfl⟩:u5=_∧True:=⟨List.head_eq_of_cons_eq e5,trivial⟩;exact⟨⟨s0,s1,s2,s3,s4,s5⟩,⟨A1,c1,A2,c2,A4,c4,rfl,k1,k2,k4⟩,by unfold JC;(try dsimp only);omega⟩
theorem MH (h:jv enc W fuel 60 cs y):∃ A c xs,cs=[.slice A xs.length c]∧Sq gT W Any A xs∧(xs.map JC).sum+1≤Rows.uptoBulk y.1∧xs.length≤maxLen:=
 iq gT JC Tryz.underlying60 ai ag (fun n _ cs y h=>RH h) h
theorem JI (h:jv enc W fuel 62 cs y):∃ x:cw,dL.is W Any cs x∧wX x≤Rows.uptoBulk y.1:=by
 obtain⟨xs,n,hn,rfl,hl,hlen,hf⟩:=DataW.trod_struct Tryz.underlying62 h
 match xs,hlen with
 |[y0,y1],_=>
  rw[show Tryz.prog.cellsOf 62=2 by kernel_rfl]at hl
  match cs,hl with
  |[u0,u1],_=>
   have h0:jv enc W n 9 [u0] y0:=cS hf (i:=0) rfl (show Tryz.prog.cellsOf 9=1 by kernel_rfl) rfl rfl;have h1:jv enc W n 60 [u1] y1:=cS hf (i:=1) rfl (show Tryz.prog.cellsOf 60=1 by kernel_rfl) rfl rfl;obtain⟨s0,e0,b0⟩:=eN h0;obtain⟨A1,c1,s1,e1,k1,b1,m1⟩:=MH h1;simp only[Rows.uptoBulk,List.map_cons,List.map_nil,Rows.uptoBulkAll];obtain⟨rfl⟩:u0=_∧True:=⟨List.head_eq_of_cons_eq e0,trivial⟩;obtain⟨rfl⟩:u1=_∧True:=⟨List.head_eq_of_cons_eq e1,trivial⟩;exact⟨⟨s0,s1⟩,⟨A1,c1,rfl,k1⟩,by unfold wX;(try dsimp only);omega⟩
theorem GN (h:jv enc W fuel 22 cs y):∃ A c xs,cs=[.slice A xs.length c]∧Sq gN W Any A xs∧(xs.map wW).sum+1≤Rows.uptoBulk y.1∧xs.length≤maxLen:=
 iq gN wW Tryz.underlying22 ai ag (fun n _ cs y h=>JG h) h
theorem JJ (h:jv enc W fuel 23 cs y):∃ A c xs,cs=[.slice A xs.length c]∧Sq jg W Any A xs∧(xs.map Cq).sum+1≤Rows.uptoBulk y.1∧xs.length≤maxLen:=
 iq jg Cq Tryz.underlying23 ai ag (fun n _ cs y h=>MC h) h
theorem JK (h:jv enc W fuel 24 cs y):∃ A c xs,cs=[.slice A xs.length c]∧Sq fO W Any A xs∧(xs.map Cr).sum+1≤Rows.uptoBulk y.1∧xs.length≤maxLen:=
 iq fO Cr Tryz.underlying24 ai ag (fun n _ cs y h=>MG h) h
theorem MI (h:jv enc W fuel 25 cs y):∃ A c xs,cs=[.slice A xs.length c]∧Sq jb W Any A xs∧(xs.map Jz).sum+1≤Rows.uptoBulk y.1∧xs.length≤maxLen:=
 iq jb Jz Tryz.underlying25 ai ag (fun n _ cs y h=>RF h) h
theorem MJ (h:jv enc W fuel 26 cs y):∃ A c xs,cs=[.slice A xs.length c]∧Sq dS W Any A xs∧(xs.map JA).sum+1≤Rows.uptoBulk y.1∧xs.length≤maxLen:=
 iq dS JA Tryz.underlying26 ai ag (fun n _ cs y h=>RG h) h
theorem MK (h:jv enc W fuel 27 cs y):∃ A c xs,cs=[.slice A xs.length c]∧Sq lH W Any A xs∧(xs.map JB).sum+1≤Rows.uptoBulk y.1∧xs.length≤maxLen:=
 iq lH JB Tryz.underlying27 ai ag (fun n _ cs y h=>RD h) h
theorem JL (h:jv enc W fuel 28 cs y):∃ A c xs,cs=[.slice A xs.length c]∧Sq jh W Any A xs∧(xs.map Ct).sum+1≤Rows.uptoBulk y.1∧xs.length≤maxLen:=
 iq jh Ct Tryz.underlying28 ai ag (fun n _ cs y h=>ME h) h
theorem GP (h:jv enc W fuel 29 cs y):∃ A c xs,cs=[.slice A xs.length c]∧Sq dL W Any A xs∧(xs.map wX).sum+1≤Rows.uptoBulk y.1∧xs.length≤maxLen:=
 iq dL wX Tryz.underlying29 ai ag (fun n _ cs y h=>JI h) h
theorem open_sheet (h:jv enc W fuel 31 cs y):∃ (ls:dU) (s:bY),cs=cn ls s∧cB W Any ls s∧UO s≤Rows.uptoBulk y.1:=by
 obtain⟨xs,n,hn,rfl,hl,hlen,hf⟩:=DataW.trod_struct Tryz.underlying31 h
 match xs,hlen with
 |[y0,y1,y2,y3,y4,y5,y6,y7,y8],_=>
  rw[show Tryz.prog.cellsOf 31=9 by kernel_rfl]at hl
  match cs,hl with
  |[u0,u1,u2,u3,u4,u5,u6,u7,u8],_=>
   have h0:jv enc W n 9 [u0] y0:=cS hf (i:=0) rfl (show Tryz.prog.cellsOf 9=1 by kernel_rfl) rfl rfl;have h1:jv enc W n 22 [u1] y1:=cS hf (i:=1) rfl (show Tryz.prog.cellsOf 22=1 by kernel_rfl) rfl rfl;have h2:jv enc W n 23 [u2] y2:=cS hf (i:=2) rfl (show Tryz.prog.cellsOf 23=1 by kernel_rfl) rfl rfl;have h3:jv enc W n 24 [u3] y3:=cS hf (i:=3) rfl (show Tryz.prog.cellsOf 24=1 by kernel_rfl) rfl rfl;have h4:jv enc W n 25 [u4] y4:=cS hf (i:=4) rfl (show Tryz.prog.cellsOf 25=1 by kernel_rfl) rfl rfl;have h5:jv enc W n 26 [u5] y5:=cS hf (i:=5) rfl (show Tryz.prog.cellsOf 26=1 by kernel_rfl) rfl rfl;have h6:jv enc W n 27 [u6] y6:=cS hf (i:=6) rfl (show Tryz.prog.cellsOf 27=1 by kernel_rfl) rfl rfl;have h7:jv enc W n 28 [u7] y7:=cS hf (i:=7) rfl (show Tryz.prog.cellsOf 28=1 by kernel_rfl) rfl rfl;have h8:jv enc W n 29 [u8] y8:=cS hf (i:=8) rfl (show Tryz.prog.cellsOf 29=1 by kernel_rfl) rfl rfl;obtain⟨s0,e0,b0⟩:=eN h0;obtain⟨A1,c1,s1,e1,k1,b1,m1⟩:=GN h1;obtain⟨A2,c2,s2,e2,k2,b2,m2⟩:=JJ h2;obtain⟨A3,c3,s3,e3,k3,b3,m3⟩:=JK h3;obtain⟨A4,c4,s4,e4,k4,b4,m4⟩:=MI h4;obtain⟨A5,c5,s5,e5,k5,b5,m5⟩:=MJ h5;obtain⟨A6,c6,s6,e6,k6,b6,m6⟩:=MK h6;obtain⟨A7,c7,s7,e7,k7,b7,m7⟩:=JL h7;obtain⟨A8,c8,s8,e8,k8,b8,m8⟩:=GP h8;simp only[Rows.uptoBulk,List.map_cons,List.map_nil,Rows.uptoBulkAll];obtain⟨rfl⟩:u0=_∧True:=⟨List.head_eq_of_cons_eq e0,trivial⟩;obtain⟨rfl⟩:u1=_∧True:=⟨List.head_eq_of_cons_eq e1,trivial⟩;obtain⟨rfl⟩:u2=_∧True:=⟨List.head_eq_of_cons_eq e2,trivial⟩;obtain⟨rfl⟩:u3=_∧True:=⟨List.head_eq_of_cons_eq e3,trivial⟩;obtain⟨rfl⟩:u4=_∧True:=⟨List.head_eq_of_cons_eq e4,trivial⟩;obtain⟨rfl⟩:u5=_∧True:=⟨List.head_eq_of_cons_eq e5,trivial⟩;obtain⟨rfl⟩:u6=_∧True:=⟨List.head_eq_of_cons_eq e6,trivial⟩;obtain⟨rfl⟩:u7=_∧True:=⟨List.head_eq_of_cons_eq e7,trivial⟩;obtain⟨rfl⟩:u8=_∧True:=⟨List.head_eq_of_cons_eq e8,trivial⟩;exact⟨⟨A1,c1,A2,c2,A3,c3,A4,c4,A5,c5,A6,c6,A7,c7,A8,c8⟩,⟨s0,s1,s2,s3,s4,s5,s6,s7,s8⟩,rfl,⟨k1,k2,k3,k4,k5,k6,k7,k8⟩,by unfold UO;(try dsimp only);omega⟩
end
end
end Go.Proofs.YtkfofnjfihfgkaaGreatDoor
namespace Go.Proofs.YtkfofnjfihfgkaaGreatDoor
open Go Go.RowKit Go.Proofs
section
theorem vv (w:World) (cs:List Value) (t:TypeId) (n k:Nat) (hk:cs.length=n*k):Reads (w.alloc (.cells cs.toArray t)) (w+1) k (bS w 0) n cs:=by
 refine⟨hk,fun _=>⟨_,rfl,Nat.lt_succ_self _,fun j u hu=>?_⟩⟩;have e:(w.alloc (.cells cs.toArray t)).cell? (bS w j)=some u:=by
  unfold World.cell?;rw[show(w.alloc (.cells cs.toArray t)).heap[(bS w j:Addr).block]? =_ from heap_alloc_new w _];simpa using hu
 unfold Addr.add;split
 (·(next h0=>subst h0;exact e));simpa using e
section
variable {α:Type} {R:Rel α} {w w' W:World} {S S':Nat→Prop} {v v':Value} {xs ys:List α} {B T:Nat}
theorem cV.pW:cV R T B w S cG []:=⟨[],rfl,⟨by simp,.inl ⟨rfl,rfl⟩⟩,fun cs h=>by simp at h,fun j cs x h=>by simp at h⟩
theorem cV.empty (hB:B≤w.heap.size) (t:Nat) (ht:t=T):cV R T B (w.alloc (.cells #[] t)) S (bQ (bS w 0) 0 0) []:=by
 subst ht;exact⟨[],rfl,⟨by simp,.inr ⟨w.heap.size,0,#[],rfl,hB,heap_alloc_new w _,Nat.le_refl _,Nat.zero_le _,by simp,by simp⟩⟩,fun cs h=>by simp at h,fun j cs x h=>by simp at h⟩
theorem cV.lt (h:cV R T B w S v xs) (g:Nat) (hg:v.ownBlock=some g):B≤g∧g<w.heap.size:=by
 obtain⟨css,h1,h2,_⟩:=h;exact nV h2 g hg
theorem cV.bU (h:cV R T B w S v xs) (hb:Below w w w'):cV R T B w' S v xs:=by
 obtain⟨css,h1,h2,h3,h4⟩:=h;exact⟨css,h1,rT h2 hb,h3,fun j cs x hc hx=>R.keep (h4 j cs x hc hx) (cA.cj hb)⟩
theorem cV.mono (h:cV R T B w S v xs) (hs:∀ b,b<w.heap.size→S b→S' b):cV R T B w S' v xs:=by
 obtain⟨css,h1,h2,h3,h4⟩:=h;exact⟨css,h1,h2,h3,fun j cs x hc hx=>R.mono (h4 j cs x hc hx) fun b hb q=>⟨hs b hb q.1,q.2⟩⟩
theorem cV.slice (h:cV R T B w S v xs):∃ A c,v=bQ A xs c∧xs.length≤c∧c≤maxLen:=by
 obtain⟨css,h1,h2,_⟩:=h;exact iU h2
theorem tE {k:Nat}:∀ {css:List (List Value)},(∀ cs∈css,cs.length=k)→css.flatten.length=css.length*k
 |[],_=>by simp
 |a :: l,h=>by
  have ih:=tE (css:=l) (fun cs hcs=>h cs (List.mem_cons_of_mem _ hcs));rw[List.flatten_cons,List.length_append,ih,h a aj,List.length_cons,Nat.add_mul];omega
theorem jY {k:Nat}:∀ {css:List (List Value)} (_:∀ cs∈css,cs.length=k) (j i:Nat) (cs:List Value) (v:Value),css[j]? =some cs→cs[i]? =some v→css.flatten[j*k+i]? =some v
 |[],_,j,i,cs,v,h,_=>by simp at h
 |a :: l,hk,0,i,cs,v,h,hv=>by
  simp at h;subst h;rw[List.flatten_cons,Nat.zero_mul,Nat.zero_add,List.getElem?_append_left (List.getElem?_eq_some_iff.1 hv).1];exact hv
 |a :: l,hk,j+1,i,cs,v,h,hv=>by
  have ih:=jY (css:=l) (fun cs hcs=>hk cs (List.mem_cons_of_mem _ hcs)) j i cs v aO hv;have ha:=hk a aj;rw[List.flatten_cons,List.getElem?_append_right (by rw[ha,Nat.add_mul];omega),ha,Nat.add_mul];rw[show j*k+1*k+i - k=j*k+i by omega];exact ih
theorem cV.sq {A:Option Addr} {n c:Nat} (h:cV R T B w S (bQ A n c) xs) (hs:∀ b,b<w.heap.size→B≤b→S b):Sq R w S A xs:=by
 obtain⟨A',c',e,_⟩:=h.slice;injection e with e1 e2 e3;subst e1 e2;obtain⟨css,h1,h2,h3,h4⟩:=h;refine⟨css,h1,fun hn=>?_,fun j cs x hc hx=>R.mono (h4 j cs x hc hx) fun b _ q=>q.1⟩;have hl:0<xs.length:=by
  rw[← h1];cases css with
  |nil=>exact absurd rfl hn
  |cons x l=>simp
 obtain⟨g,cap',hv,hg1,hg2⟩:=h2.form hl;have hA:A=bS g 0:=(by injection hv);subst hA;refine⟨g,0,rfl,hs g hg2 hg1,hg2,fun j x hx i v hv'=>?_⟩;have:=h2.cells (g:=g) rfl (j*R.k+i) v (jY h3 j i x v hx hv');rw[Addr.add_lit]at this;simpa [Nat.add_assoc]using this
theorem cV.more {css:List (List Value)} {news:List α} {EJ:List (List Value)} {nv:List Value} {n:Nat} (h1:css.length=xs.length) (h3:∀ cs∈css,cs.length=R.k) (h4:∀ (j:Nat) cs x,css[j]? =some cs→xs[j]? =some x→R.is W (fun b=>S b∧some b≠v.ownBlock) cs x) (yb:EJ.length=news.length) (hn:∀ (j:Nat) cs x,EJ[j]? =some cs→news[j]? =some x→R.is W (fun b=>S b∧some b≠v.ownBlock) cs x) (hnv:nv=EJ.flatten) (hnn:n=news.length) (ho:w'.ownsRow B T R.k v' (xs.length+n) (css.flatten++nv)) (hg:W.grownBy w' v.ownBlock) (hat:v'.ownBlock=v.ownBlock∨v'.ownBlock=some W.heap.size):cV R T B w' S v' (xs++news):=by
 subst hnv hnn;have hnk:∀ cs∈EJ,cs.length=R.k:=fun cs hcs=>by
  obtain⟨j,hj,rfl⟩:=List.getElem_of_mem hcs;exact R.len (hn j _ _ (List.getElem?_eq_getElem hj) (List.getElem?_eq_getElem af))
 refine⟨css++EJ,by simp[h1,yb],by simpa using ho,fun cs hcs=>?_,fun j cs x hc hx=>?_⟩
 ·rcases List.mem_append.1 hcs with h|h
  (·exact h3 cs h);exact hnk cs h
 have hx':R.is W (fun b=>S b∧some b≠v.ownBlock) cs x:=by
  rcases Nat.lt_or_ge j xs.length with h|h
  (·rw[List.getElem?_append_left af]at hc;rw[List.getElem?_append_left h]at hx;exact h4 j cs x hc hx);rw[List.getElem?_append_right af]at hc;rw[List.getElem?_append_right h]at hx;rw[h1]at hc;exact hn _ cs x hc hx
 have h1:R.is W (fun b=>(S b∧some b≠v.ownBlock)∧some b≠v'.ownBlock) cs x:=R.mono hx' fun b hb q=>⟨q,by
  rcases hat with e|e
  (·rw[e];exact q.2);rw[e];intro e2;injection e2 with e2;omega⟩
 exact R.mono (R.keep h1 (cA.cW hg fun b q=>q.1.2)) fun b _ q=>⟨q.1.1,q.2⟩
end
end
section
def Fq (P:Program) (t e k:Nat):Prop:=P.underlying t=some (.slice e)∧0<k∧∃ i z bytes,P.info? e=some i∧i.zero=some z∧i.size=k∧i.bytes=bytes∧z.cells.size=k∧bytes≤1000
theorem Fq.of {P:Program} {t e k:Nat} (z:Value) (bytes:Nat) (hu:P.underlying t=some (.slice e)) (hi:(P.info? e).map (fun i=>(i.zero,i.size,i.bytes))=some (some z,k,bytes)) (hz:z.cells.size=k) (hb:bytes≤1000) (hk:0<k):Fq P t e k:=by
 obtain⟨i0,ug,hz0,hz1,hz2⟩:=info_parts hi;exact⟨hu,hk,i0,z,bytes,ug,hz0,hz1,hz2,hz,hb⟩
def rH {α:Type} (R:Rel α) (w:World) (S:Nat→Prop) (A:Option Addr) (xs:List α):Prop:=
 ∃ css:List (List Value),css.length=xs.length∧Rows w Any A R.k css∧∀ (j:Nat) cs x,css[j]? =some cs→xs[j]? =some x→R.is w S cs x
section
variable {α:Type} {R:Rel α} {w w':World} {S S':Nat→Prop} {A:Option Addr} {v:Value} {xs ys:List α} {B T t:Nat} {P:Program}
theorem Sq.ext (h:Sq R w S A xs):rH R w S A xs:=by
 obtain⟨css,h1,h2,h3⟩:=h;exact⟨css,h1,h2.mono fun _ _ _=>trivial,h3⟩
theorem rH.mono (h:rH R w S A xs) (hs:∀ b,b<w.heap.size→S b→S' b):rH R w S' A xs:=by
 obtain⟨css,h1,h2,h3⟩:=h;exact⟨css,h1,h2,fun j cs x hc hx=>R.mono (h3 j cs x hc hx) hs⟩
theorem rH.bU (h:rH R w S A xs) (hb:Below w w w'):rH R w' S A xs:=by
 obtain⟨css,h1,h2,h3⟩:=h;exact⟨css,h1,h2.keep (cA.cj hb),fun j cs x hc hx=>R.keep (h3 j cs x hc hx) (cA.cj hb)⟩
theorem rH.lit {cs:List Value} {x:α} (h:R.is w S cs x) (e:TypeId):rH R (w.alloc (.cells cs.toArray e)) S (bS w 0) [x]:=by
 refine⟨[cs],rfl,fun _=>⟨w.heap.size,0,rfl,trivial,by simp,fun j c hj i u hu=>?_⟩,fun j c y hc hy=>?_⟩
 (·(have hj0:j=0:=by have:=(List.getElem?_eq_some_iff.1 hj).1;simpa using this);subst hj0;have hc:cs=c:=bB;subst hc;rw[cell_of_row _ _ _ _ _ _ (heap_alloc_new w _)];simpa using hu);(have hj0:j=0:=by have:=(List.getElem?_eq_some_iff.1 hc).1;simpa using this);subst hj0;have h1:cs=c:=aae;have h2:x=y:=(by simpa using hy);subst h1 h2;exact R.keep h (cA.cj (cJ _))
theorem rH.iV {cs:List Value} {x:α} {n:Nat} (h:R.is w S cs x) (e:TypeId) (hn:n=w.heap.size):rH R (w.alloc (.cells cs.toArray e)) S (bS n 0) [x]:=hn▸rH.lit h e
theorem Cu {css:List (List Value)} {k:Nat} (h:Rows w Any A k css) (hk:∀ cs∈css,cs.length=k) (hk0:0<k):Reads w w k A css.length css.flatten:=by
 refine⟨tE hk,fun hn=>?_⟩;obtain⟨b,off,e,_,hlt,hc⟩:=h (fun e=>by subst e;simp at hn);refine⟨_,e,hlt,fun j u hu=>?_⟩;have hj:j<css.flatten.length:=(List.getElem?_eq_some_iff.1 hu).1;rw[tE hk]at hj;have hq:j / k<css.length:=Nat.div_lt_of_lt_mul (by rw[Nat.mul_comm];exact hj);have hr:=Nat.mod_lt j hk0;have dn:=hk _ (List.getElem_mem hq);have hfu:=jY hk (j / k) (j % k) css[j / k] (css[j / k][j % k]' af) (List.getElem?_eq_getElem hq) (List.getElem?_eq_getElem af);have hdm:j / k*k+j % k=j:=(by rw[Nat.mul_comm];exact Nat.div_add_mod j k);rw[hdm,hu]at hfu;injection hfu with hfu;have:=hc (j / k) _ (List.getElem?_eq_getElem hq) (j % k) _ (List.getElem?_eq_getElem af);rw[← hfu,Nat.add_assoc,hdm]at this;rw[Addr.add_lit];exact this
structure Grown (R:Rel α) (T B:Nat) (w:World) (S:Nat→Prop) (v:Value) (xs:List α) (w':World) (v':Value):Prop where
 own:cV R T B w' S v' xs
 turn:w.grownBy w' v.ownBlock
 row:v'.ownBlock=v.ownBlock∨v'.ownBlock=some w.heap.size
theorem zP {o:Oper} {a:Act} {K:Act→World→Prop} {Q:Exit→Act→World→Prop} (s x:Operand) (tt:TypeId) (htt:tt=t) (ho:o.op= .call {callee:= .builtin .append,args:=#[s,x],argTypes:=#[tt,tt]}) (I:Fq P t T R.k) (hO:cV R T B w S v xs) (hs:a.eval s=v) (A:Option Addr) (m c:Nat) (hx:a.eval x=bQ A m c) (hm:ys.length=m) (hN:rH R w (fun b=>S b∧some b≠v.ownBlock) A ys) (hl:xs.length+m≤100000000000) (hB:B≤w.heap.size) {zs:List α} (hzs:xs++ys=zs) {n:Nat} (hn:xs.length+m=n) (hK:∀ A' c' w',n≤c'→Hid (Grown R T B w S v zs w' (bQ A' n c'))→K (a.put o.dst (bQ A' n c')) w'):Oper.wp P o a w K Q:=by
 subst htt hm hzs hn;obtain⟨hu,hk0,i0,z,bytes,ug,hz0,hz1,hz2,hz3,hb⟩:=I;obtain⟨css,h1,h2,h3,h4⟩:=hO;obtain⟨EJ,n1,n2,n3⟩:=hN;have hnk:∀ cs∈EJ,cs.length=R.k:=fun cs hcs=>by
  obtain⟨j,hj,rfl⟩:=List.getElem_of_mem hcs;exact R.len (n3 j _ _ (List.getElem?_eq_getElem hj) (List.getElem?_eq_getElem af))
 have hr:=Cu n2 hnk hk0;rw[n1]at hr;refine nS w s x _ ho B T i0 z R.k bytes hu ug hz0 hz1 hz2 hz3 hk0 v xs.length css.flatten hs h2 w A ys.length c EJ.flatten hx hr (fun u hu=>?_) aT ?_ hB fun v' w' g1 g2 g3=>?_
 (·obtain⟨cs,hcs,hu⟩:=List.mem_flatten.1 hu;obtain⟨j,hj,rfl⟩:=List.getElem_of_mem hcs;exact R.one (n3 j _ _ (List.getElem?_eq_getElem hj) (List.getElem?_eq_getElem af)) u hu)
 (·exact Nat.le_trans (Nat.mul_le_mul hl hb) ag);obtain⟨A',c',e,hc,_⟩:=iU g1;subst e;exact hK A' c' w' hc (aa ⟨cV.more h1 h3 h4 n1 n3 rfl rfl g1 g2 g3,g2,g3⟩)
theorem cC {ops:Array Oper} {rest:List Oper} {o:Oper} {a:Act} {Q:Exit→Act→World→Prop} (hgd:o.guard=none) (s x:Operand) (tt:TypeId) (htt:tt=t) (ho:o.op= .call {callee:= .builtin .append,args:=#[s,x],argTypes:=#[tt,tt]})
 (I:Fq P t T R.k) (hO:cV R T B w S v xs) (hs:a.eval s=v) (A:Option Addr) (m c:Nat) (hx:a.eval x=bQ A m c) (hm:ys.length=m) (hN:rH R w (fun b=>S b∧some b≠v.ownBlock) A ys)
 (hl:xs.length+m≤100000000000) (hB:B≤w.heap.size) {zs:List α} (hzs:xs++ys=zs) {n:Nat} (hn:xs.length+m=n)
 (hK:∀ A' c' w',n≤c'→Hid (Grown R T B w S v zs w' (bQ A' n c'))→wpList P ops Q rest (a.put o.dst (bQ A' n c')) w'):wpList P ops Q (o :: rest) a w:=
 wpList_plain hgd fun _ hKK=>zP s x tt htt ho I hO hs A m c hx hm hN hl hB hzs hn fun A' c' w' h1 h2=>hKK _ _ (hK A' c' w' h1 h2)
theorem eR {ops:Array Oper} {o:Oper} {a:Act} {K:Act→World→Prop} {Q:Exit→Act→World→Prop} {E:Prop} (hgd:o.guard=none) (s x:Operand) (tt:TypeId) (htt:tt=t) (ho:o.op= .call {callee:= .builtin .append,args:=#[s,x],argTypes:=#[tt,tt]}) (I:Fq P t T R.k) (hO:cV R T B w S v xs) (hs:a.eval s=v) (A:Option Addr) (m c:Nat) (hx:a.eval x=bQ A m c) (hm:ys.length=m) (hN:rH R w (fun b=>S b∧some b≠v.ownBlock) A ys) (hl:xs.length+m≤100000000000) (hB:B≤w.heap.size) {zs:List α} (hzs:xs++ys=zs) {n:Nat} (hn:xs.length+m=n) (hK:∀ A' c' w',n≤c'→Hid (Grown R T B w S v zs w' (bQ A' n c'))→K (a.put o.dst (bQ A' n c')) w'):if Region.wanted o (yielded ops a.tmps)=true then Oper.wp P o a w K Q else E:=by
 have hw:Region.wanted o (yielded ops a.tmps)=true:=(by simp[Region.wanted,hgd]);rw[if_pos hw];exact zP s x tt htt ho I hO hs A m c hx hm hN hl hB hzs hn hK
theorem Grown.bU {xs':List α} {v':Value} (h:Grown R T B w S v xs w' v') (hO:cV R T B w S v xs') (hB:B≤w.heap.size):Below B w w':=
 (Below.refl B w).grown h.turn hB fun g hg=>(hO.lt g hg).1
end
theorem nh:Fq prog 63 9 1:= .of (bV ByteArray.empty) 16 Tryz.underlying63 ai rfl ag ag
end
end Go.Proofs.YtkfofnjfihfgkaaGreatDoor
namespace Go.Proofs.YtkfofnjfihfgkaaGreatDoor
open Go Go.RowKit Go.Proofs Sh
section
def mb (k T B:Nat) (w:World) (v:Value) (n:Nat) (E:Nat→List Value→Prop):Prop:=
 ∃ css:List (List Value),css.length=n∧w.ownsRow B T k v n css.flatten∧(∀ cs∈css,cs.length=k)∧∀ (j:Nat) cs,css[j]? =some cs→E j cs
section
variable {k T B n:Nat} {w w':World} {v:Value} {E E':Nat→List Value→Prop}
theorem mb.lt (h:mb k T B w v n E) (g:Nat) (hg:v.ownBlock=some g):B≤g∧g<w.heap.size:=by
 obtain⟨css,h1,h2,_⟩:=h;exact nV h2 g hg
theorem mb.slice (h:mb k T B w v n E):∃ A c,v=bQ A n c∧n≤c∧c≤maxLen:=by
 obtain⟨css,h1,h2,_⟩:=h;exact iU h2
theorem mb.move (h:mb k T B w v n E) (hk:∀ g,v.ownBlock=some g→w'.heap[g]? =w.heap[g]?) (hE:∀ j cs,j<n→E j cs→E' j cs):mb k T B w' v n E':=by
 obtain⟨css,h1,h2,h3,h4⟩:=h;refine⟨css,h1,⟨h2.1,?_⟩,h3,fun j cs hj=>hE j cs (by have:=(List.getElem?_eq_some_iff.1 hj).1;omega) (h4 j cs hj)⟩;rcases h2.2 with q|⟨g,cap,cur,rfl,hB,hb,rest⟩
 (·exact .inl q);exact .inr ⟨g,cap,cur,rfl,hB,by rw[hk g rfl];exact hb,rest⟩
theorem mb.get (h:mb k T B w v n E) (hk0:0<k) {j:Nat} (hj:j<n):∃ g c cs,v=bQ (bS g 0) n c∧B≤g∧g<w.heap.size∧cs.length=k∧E j cs∧(∀ i u,cs[i]? =some u→bW w g (j*k+i) u)∧∀ i,w.frozen? (bS g i)=false:=by
 obtain⟨css,h1,h2,h3,h4⟩:=h;have PW:j<css.length:=af;obtain⟨g,c,rfl,hg1,hg2⟩:=h2.form af;refine⟨g,c,css[j],rfl,hg1,hg2,h3 _ (List.getElem_mem PW),h4 j _ (List.getElem?_eq_getElem PW),fun i u hu=>?_,fun i=>h2.frozenAt i⟩;(have hi:i<k:=by have:=(List.getElem?_eq_some_iff.1 hu).1;rw[h3 _ (List.getElem_mem PW)]at this;exact this);have hlt:j*k+i<n*k:=by
  have:(j+1)*k≤n*k:=Nat.mul_le_mul_right k hj;rw[Nat.add_mul]at this;omega
 rw[h2.cellAt _ hlt];exact jY h3 j i _ u (List.getElem?_eq_getElem PW) hu
theorem zQ {k:Nat}:∀ {css:List (List Value)} (_:∀ cs∈css,cs.length=k) (j i:Nat) (cs:List Value) (u:Value),css[j]? =some cs→i<k→css.flatten.set (j*k+i) u=(css.set j (cs.set i u)).flatten
 |[],_,j,i,cs,u,h,_=>by simp at h
 |a :: l,hk,0,i,cs,u,h,hi=>by
  simp at h;subst h;rw[List.flatten_cons,Nat.zero_mul,Nat.zero_add,List.set_cons_zero,List.flatten_cons,List.set_append_left _ _ (by rw[hk a aj];exact hi)]
 |a :: l,hk,j+1,i,cs,u,h,hi=>by
  have ih:=zQ (css:=l) (fun cs hcs=>hk cs (List.mem_cons_of_mem _ hcs)) j i cs u aO hi;have ha:=hk a aj;rw[List.flatten_cons,List.set_cons_succ,List.flatten_cons, ← ih,List.set_append_right _ _ (by rw[ha,Nat.add_mul];omega),ha,Nat.add_mul];rw[show j*k+1*k+i - k=j*k+i by omega]
theorem mb.put {g c:Nat} (h:mb k T B w (bQ (bS g 0) n c) n E) {j i:Nat} (hj:j<n) (hi:i<k) (u:Value) (hE:∀ cs,cs.length=k→E j cs→E' j (cs.set i u)) (hO:∀ j' cs,j'≠j→j'<n→E j' cs→E' j' cs):mb k T B (w.setCell (bS g (j*k+i)) u) (bQ (bS g 0) n c) n E':=by
 obtain⟨css,h1,h2,h3,h4⟩:=h;have PW:j<css.length:=af;refine⟨css.set j (css[j].set i u),by simpa using h1,?_,fun cs hcs=>?_,fun j' cs hj'=>?_⟩
 (·rw[← zQ h3 j i css[j] u (List.getElem?_eq_getElem PW) hi];exact(h2.stored _ u).1)
 ·rcases List.mem_or_eq_of_mem_set hcs with q|q
  (·exact h3 cs q);rw[q,List.length_set];exact h3 _ (List.getElem_mem PW)
 by_cases e:j=j'
 (·subst e;rw[List.getElem?_set_self PW]at hj';injection hj' with hj';subst hj';exact hE _ (h3 _ (List.getElem_mem PW)) (h4 j _ (List.getElem?_eq_getElem PW)));rw[List.getElem?_set_ne e]at hj';exact hO j' cs (fun q=>e q.symm) (by have:=(List.getElem?_eq_some_iff.1 hj').1;omega) (h4 j' cs hj')
end
def dy {α:Type} (R:Rel α) (T B:Nat) (w:World) (U:Nat→Prop) (v:Value) (xs:List α):Prop:=
 ∃ t:Nat→Nat,(∀ g,v.ownBlock=some g→U g)∧mb R.k T B w v xs.length fun j cs=>∀ x,xs[j]? =some x→R.is w (fun b=>U b∧some b≠v.ownBlock∧t b=j) cs x
section
variable {α:Type} {R:Rel α} {w w':World} {U U':Nat→Prop} {v:Value} {xs:List α} {B T:Nat}
theorem dy.slice (h:dy R T B w U v xs):∃ A c,v=bQ A xs c∧xs.length≤c∧c≤maxLen:=by
 obtain⟨t,_,h⟩:=h;exact h.slice
theorem dy.keep (h:dy R T B w U v xs) (hk:cA U w w'):dy R T B w' U v xs:=by
 obtain⟨t,h1,h2⟩:=h;exact⟨t,h1,h2.move (fun g hg=>hk.2 g (h2.lt g hg).2 (h1 g hg)) fun j cs _ hE x hx=>R.keep (hE x hx) ⟨hk.1,fun b hb hs=>hk.2 b hb hs.1⟩⟩
theorem dy.mono (h:dy R T B w U v xs) (hs:∀ b,b<w.heap.size→U b→U' b):dy R T B w U' v xs:=by
 obtain⟨t,h1,h2⟩:=h;exact⟨t,fun g hg=>hs g (h2.lt g hg).2 (h1 g hg),h2.move (fun g hg=>rfl) fun j cs _ hE x hx=>R.mono (hE x hx) fun b hb q=>⟨hs b hb q.1,q.2⟩⟩
theorem dy.JN (h:dy R T B w U v xs):cV R T B w U v xs:=by
 obtain⟨t,h1,css,h2,h3,h4,h5⟩:=h;exact⟨css,h2,h3,h4,fun j cs x hc hx=>R.mono (h5 j cs hc x hx) fun b _ q=>⟨q.1,q.2.1⟩⟩
theorem dy.sq {A:Option Addr} {n c:Nat} (h:dy R T B w U (bQ A n c) xs):Sq R w U A xs:=by
 obtain⟨t,h1,css,h2,h3,h4,h5⟩:=h;obtain⟨A',c',e,_⟩:=iU h3;injection e with e1 e2 e3;subst e1 e2;refine⟨css,h2,fun hn=>?_,fun j cs x hc hx=>R.mono (h5 j cs hc x hx) fun b _ q=>q.1⟩;have hl:0<xs.length:=by
  rw[← h2];cases css with
  |nil=>exact absurd rfl hn
  |cons x l=>simp
 obtain⟨g,cap',hv,hg1,hg2⟩:=h3.form hl;have hA:A=bS g 0:=(by injection hv);subst hA;refine⟨g,0,rfl,h1 g rfl,hg2,fun j x hx i v hv'=>?_⟩;have:=h3.cells (g:=g) rfl (j*R.k+i) v (jY h4 j i x v hx hv');rw[Addr.add_lit]at this;simpa [Nat.add_assoc]using this
theorem dy.flat {k:Nat} {f:α→List Value} {hk:∀ x,(f x).length=k} {h1:∀ x,∀ v∈f x,v.oneCell'=true} {S:Nat→Prop} (h:cV (jX k f hk h1) T B w S v xs) (hU:∀ g,v.ownBlock=some g→U g):dy (jX k f hk h1) T B w U v xs:=by
 obtain⟨css,h2,h3,h4,h5⟩:=h;exact⟨fun _=>0,hU,css,h2,h3,h4,fun j cs hc x hx=>h5 j cs x hc hx⟩
end
def vw (T B:Nat):Rel eB where
 k:=3
 is:=fun w U cs x=>∃ A c,cs=[bV x.name,bV x.unit,bQ A x.rows c]∧dy yw T B w U (bQ A x.rows c) x.rows
 len:=fun⟨A,c,h,_⟩=>by rw[h];rfl
 one:=fun⟨A,c,h,_⟩ v hv=>by
  rw[h]at hv;simp at hv;rcases hv with rfl|rfl|rfl<;>rfl
 keep:=fun⟨A,c,h,k⟩ hk=>⟨A,c,h,k.keep hk⟩
 mono:=fun⟨A,c,h,k⟩ hs=>⟨A,c,h,k.mono hs⟩
def uT (T B:Nat):Rel eU where
 k:=7
 is:=fun w U cs x=>∃ A c es,∃ t:Nat→Nat,cs=[bV x.name,bQ A x.params c]++es∧dy jM T B w (fun b=>U b∧t b=0) (bQ A x.params c) x.params∧cR w (fun b=>U b∧t b=1) es x.body
 len:=fun⟨A,c,es,t,h,_,k⟩=>by rw[h,List.length_append,ja.len k];rfl
 one:=fun⟨A,c,es,t,h,_,k⟩ v hv=>by
  rw[h,List.mem_append]at hv;rcases hv with hv|hv
  (·simp at hv;rcases hv with rfl|rfl<;>rfl);exact ja.one k v hv
 keep:=fun⟨A,c,es,t,h,k1,k2⟩ hk=>⟨A,c,es,t,h,k1.keep ⟨hk.1,fun b hb q=>hk.2 b hb q.1⟩,k2.keep ⟨hk.1,fun b hb q=>hk.2 b hb q.1⟩⟩
 mono:=fun⟨A,c,es,t,h,k1,k2⟩ hs=>⟨A,c,es,t,h,k1.mono fun b hb q=>⟨hs b hb q.1,q.2⟩,k2.mono fun b hb q=>⟨hs b hb q.1,q.2⟩⟩
def lJ (T B:Nat):Rel dV where
 k:=6
 is:=fun w U cs x=>∃ A1 c1 A2 c2 A3 c3,∃ t:Nat→Nat,cs=[bR x.kind,bQ A1 x.inp c1,bQ A2 x.o c2,bV x.name,bQ A3 x.cells c3,bR x.amount]∧
  dy dw T B w (fun b=>U b∧t b=0) (bQ A1 x.inp c1) x.inp∧dy dw T B w (fun b=>U b∧t b=1) (bQ A2 x.o c2) x.o∧dy dw T B w (fun b=>U b∧t b=2) (bQ A3 x.cells c3) x.cells
 len:=fun⟨A1,c1,A2,c2,A3,c3,t,h,_⟩=>by rw[h];rfl
 one:=fun⟨A1,c1,A2,c2,A3,c3,t,h,_⟩ v hv=>by
  rw[h]at hv;simp at hv;rcases hv with rfl|rfl|rfl|rfl|rfl|rfl<;>rfl
 keep:=fun⟨A1,c1,A2,c2,A3,c3,t,h,k1,k2,k3⟩ hk=>⟨A1,c1,A2,c2,A3,c3,t,h,k1.keep ⟨hk.1,fun b hb q=>hk.2 b hb q.1⟩,k2.keep ⟨hk.1,fun b hb q=>hk.2 b hb q.1⟩,k3.keep ⟨hk.1,fun b hb q=>hk.2 b hb q.1⟩⟩
 mono:=fun⟨A1,c1,A2,c2,A3,c3,t,h,k1,k2,k3⟩ hs=>⟨A1,c1,A2,c2,A3,c3,t,h,k1.mono fun b hb q=>⟨hs b hb q.1,q.2⟩,k2.mono fun b hb q=>⟨hs b hb q.1,q.2⟩,k3.mono fun b hb q=>⟨hs b hb q.1,q.2⟩⟩
def ko (TS T B:Nat):Rel cw where
 k:=2
 is:=fun w U cs x=>∃ A c,cs=[bV x.kind,bQ A x.steps c]∧dy (lJ TS B) T B w U (bQ A x.steps c) x.steps
 len:=fun⟨A,c,h,_⟩=>by rw[h];rfl
 one:=fun⟨A,c,h,_⟩ v hv=>by
  rw[h]at hv;simp at hv;rcases hv with rfl|rfl<;>rfl
 keep:=fun⟨A,c,h,k⟩ hk=>⟨A,c,h,k.keep hk⟩
 mono:=fun⟨A,c,h,k⟩ hs=>⟨A,c,h,k.mono hs⟩
end
end Go.Proofs.YtkfofnjfihfgkaaGreatDoor
namespace Go.Proofs.YtkfofnjfihfgkaaGreatDoor
open Go Go.RowKit Go.Proofs
theorem Fs:Fq prog 22 143 6:= .of (.agg #[bV ByteArray.empty,bV ByteArray.empty,bR 0,bR 0,bV ByteArray.empty,bR 0]) 72 Tryz.underlying22 ai ai ag ag
theorem JO:Fq prog 23 125 3:= .of (.agg #[bV ByteArray.empty,bV ByteArray.empty,bV ByteArray.empty]) 48 Tryz.underlying23 ai ai ag ag
theorem P0:Fq prog 27 127 3:= .of (.agg #[bV ByteArray.empty,bV ByteArray.empty,bR 0]) 40 Tryz.underlying27 ai ai ag ag
theorem JQ:Fq prog 28 136 3:= .of (.agg #[bV ByteArray.empty,bV ByteArray.empty,bR 0]) 40 Tryz.underlying28 ai ai ag ag
theorem JS:Fq prog 24 106 3:= .of (.agg #[bV ByteArray.empty,bV ByteArray.empty,cG]) 56 Tryz.underlying24 ai ai ag ag
theorem P9:Fq prog 25 76 7:= .of (.agg #[bV ByteArray.empty,cG,bR 0,bR 0,bV ByteArray.empty,bV ByteArray.empty,cG]) 112 Tryz.underlying25 ai ai ag ag
theorem wY:Fq prog 26 56 7:= .of (.agg #[bV ByteArray.empty,bV ByteArray.empty,bR 0,bR 0,bV ByteArray.empty,bV ByteArray.empty,cG]) 104 Tryz.underlying26 ai ai ag ag
theorem Fu:Fq prog 29 62 2:= .of (.agg #[bV ByteArray.empty,cG]) 40 Tryz.underlying29 ai ai ag ag
theorem Tryz.infRow:Fq prog 104 153 2:= .of (.agg #[bR 0,bR 0]) 16 Tryz.underlying104 ai ai ag ag
theorem UU:Fq prog 74 78 2:= .of (.agg #[bV ByteArray.empty,bV ByteArray.empty]) 32 Tryz.underlying74 ai ai ag ag
theorem P_:Fq prog 60 65 6:= .of (.agg #[bR 0,cG,cG,bV ByteArray.empty,cG,bR 0]) 104 Tryz.underlying60 ai ai ag ag
theorem ZC:Fq prog 52 54 5:= .of (.agg #[bR 0,bR 0,bV ByteArray.empty,bV ByteArray.empty,cG]) 72 Tryz.underlying52 ai ai ag ag
end Go.Proofs.YtkfofnjfihfgkaaGreatDoor
