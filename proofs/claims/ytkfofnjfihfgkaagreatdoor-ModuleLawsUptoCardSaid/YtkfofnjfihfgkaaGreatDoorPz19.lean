/- Parts of the proof, packed (Used to PfM); each theorem bears its own conditions. -/
import Derived.Test.YtkfofnjfihfgkaaGreatDoorPz18
set_option linter.unusedVariables false
set_option linter.unusedSimpArgs false
set_option maxRecDepth 100000
set_option maxHeartbeats 8000000
open Go.Proofs.Tryz
open Go.Lib renaming hid → aa
theorem aav {p:Prop} (h:p:=by rw[lu];exact Nat.le_refl _):p:=h
namespace Go.Proofs.YtkfofnjfihfgkaaGreatDoor
open Go Go.RowKit Go.Proofs Sh Kb
def jO (r k:Nat) (y:dV):List (List fJ):=[(List.range y.inp.length).map (.sin r k),(List.range y.o.length).map (.qd r k),(List.range y.cells.length).map (.kG r k)]
theorem K8 (r k:Nat) (y:dV):jd r k y=(jO r k y).flatten++if gz y then[.jR r k]else[]:=by simp[jd,jO,List.append_assoc]
theorem jo.grow {w wr w1:World} {a:dU} {ls:List fJ} {qs:List Addr} {v:Value} (h:jo w a ls qs v wr) (hb:Below wr wr w1):jo w a ls qs v w1:=⟨h.own.bU hb,h.ok,h.bU.trans (hb.mono h.bU.size)⟩
theorem SU {r k:Nat} {y:dV} (h:dO y=true):(jd r k y).length≤301:=by
 obtain⟨h1,h2,h3⟩:=nE h;unfold jd;simp only[List.length_append,List.length_map,List.length_range];split<;>simp<;>omega
theorem QY {α β:Type} {f:Nat→α→β} {l:List α} {y:β} (h:y∈ix f l):∃ j x,l[j]? =some x∧y=f j x:=by
 obtain⟨j,hj,rfl⟩:=List.getElem_of_mem h;have hj':j<l.length:=(by rwa [lu]at hj);exact⟨j,l[j],List.getElem?_eq_getElem hj',FZ f l hj'⟩
theorem qF {x:cw} (h:dW x=true):x.steps.length≤100∧∀ y∈x.steps,dO y=true:=by
 unfold dW at h;simp only[Bool.and_eq_true,decide_eq_true_eq]at h;exact⟨h.1,List.all_eq_true.1 h.2⟩
theorem Dq {r k:Nat} {x:cw} (h:dW x=true):((ix (jd r) x.steps).take k).flatten.length≤30100:=by
 have h1:=jA (c:=301) (ls:=(ix (jd r) x.steps).take k) fun l hl=>by
  obtain⟨j,y,hy,rfl⟩:=QY (List.mem_of_mem_take hl);exact SU ((qF h).2 y (List.mem_of_getElem? hy))
 have h2:((ix (jd r) x.steps).take k).length≤100:=by
  rw[List.length_take,lu];have:=(qF h).1;omega
 omega
theorem Dr {s:bY} {k:Nat} (h:∀ x∈s.bX,dW x=true) (hl:s.bX.length≤100):((ix sP s.bX).take k).flatten.length≤3010000:=by
 have h1:=jA (c:=30100) (ls:=(ix sP s.bX).take k) fun l hl=>by
  obtain⟨j,y,hy,rfl⟩:=QY (List.mem_of_mem_take hl)
  have h9:=Dq (r:=j) (k:=y.steps.length) (h y (List.mem_of_getElem? hy))
  rwa [List.take_of_length_le aav]at h9
 have h2:((ix sP s.bX).take k).length≤100:=by
  rw[List.length_take,lu];omega
 omega
theorem zn {α:Type} {ls:List (List α)} {k:Nat} {l:List α} (h:ls[k]? =some l):(ls.take (k+1)).flatten=(ls.take k).flatten++l:=by
 rw[List.take_add_one,h];simp
theorem Wy (a:dU) (s:bY) (p:Nat) (w:World) (hB:cH w p 31 (cn a s)) (hI:cB w Any a s) (hr:cN s=true):Calls prog 31 #[.pointer (bS p 0)] w (Dk w a (sQ s)):=by
 generalize hP:Dk w a (sQ s)=P;have HP:=aa (show ∀ e w',Dk w a (sQ s) e w'→P e w' from fun e w' h=>hP▸h);clear hP;(have hn8:s.bX.length≤100:=by have:=(dm hr).len;omega);have J8:=aa (fun x hx=>((dm hr).bX x hx).2);have Sm:=aa (fun k=>Dr (k:=k) J8.o hn8);unfold sQ at HP;obtain⟨A1,q1,A2,q2,A3,q3,A4,q4,A5,q5,A6,q6,A7,q7,A8,q8⟩:=a;obtain⟨a,ha⟩:∃ a,a=dU.mk A1 q1 A2 q2 A3 q3 A4 q4 A5 q5 A6 q6 A7 q7 A8 q8:=⟨_,rfl⟩;have HA8:=aa (show a.A8=A8 by rw[ha]);have HRC:=aa (show Sq dL w Any A8 s.bX from hI.bX);rw[← ha]at HP;simp only[cn]at hB;clear ha hI hr;have hp:=hB.lt;have HC:=aa (fun W i (h:Below w w W)=>h.cell (p:=bS p i) hp);have x8:bW w p 8 (bQ A8 s.bX q8):=hB.cell 8;have X8:=aa x8;clear hB hp;obtain⟨n8,hn⟩:∃ n,n=s.bX.length:=⟨_,rfl⟩;rw[← hn]at x8 X8 hn8;have Mg:=aa hn;clear hn;go_enter func31,ntmps31;have HS:=aa (show jo w a (((ix sP s.bX).take 0).flatten) [] cG w from⟨cV.pW,⟨rfl,fun i l q h=>by simp at h⟩,Below.refl _ _⟩);go_wp2_with fail;clear x8;go_loopw [3,15] (fun v s8 wr=>∃ (r:Nat) (qs:List Addr),r≤n8∧s8=bR (r:Int)∧Hid (jo w a (((ix sP s.bX).take r).flatten) qs v wr)) (fun _ s8 _=>n8 - (intOf s8).toNat);(case atStart=>exact⟨0,_,Nat.zero_le _,rfl,HS⟩);clear HS;obtain⟨r,qs,hk,rfl,HN⟩:=hrel;by_cases hlt:r<n8;case pos=>
  (have hrl:r<s.bX.length:=by have:=Mg.o;omega);obtain⟨b,o,cs,hA,_,hb,⟨A9,c9,hcs,hst⟩,dn⟩:=HRC.o.get hrl;subst hcs;have y1:bW w b (o+r*2+1) (bQ A9 s.bX[r].steps.length c9):=dn 1 _ rfl;obtain⟨x,hx⟩:∃ x,s.bX[r]? =some x:=⟨_,List.getElem?_eq_getElem hrl⟩;have CD:s.bX[r]=x:=Option.some.inj ((List.getElem?_eq_getElem hrl).symm.trans hx);rw[CD]at y1 hst;have NL:=aa (J8.o x (List.mem_of_getElem? hx));have vS:=(qF NL.o).1;have ew:=aa (show((ix sP s.bX).take (r+1)).flatten=((ix sP s.bX).take r).flatten++sP r x from zn (by rw[fP,hx];rfl));have hL:=Sm.o r;generalize ((ix sP s.bX).take r).flatten=L1 at HN ew hL;have HA:=aa hA;have HST:=aa hst;have Y1:=aa y1;have YV:=aa (fun k=>Dq (r:=r) (k:=k) NL.o);have SV:=aa (qF NL.o).2;clear dn hst CD hx hrl;obtain⟨n1,yb⟩:∃ n,n=x.steps.length:=⟨_,rfl⟩;rw[← yb]at y1 Y1 vS;have lW:=aa yb;clear yb;subst hA;have x8:bW wr p 8 (bQ (bS b o) n8 q8):=(HC.o wr 8 HN.o.bU).trans X8.o;have y1:bW wr b (o+r*2+1) (bQ A9 n1 c9):=(HN.o.bU.cell (p:=bS b (o+r*2+1)) hb).trans Y1.o;go_wp2_with fail;clear x8 y1;have HS:=aa (show jo w a (L1++((ix (jd r) x.steps).take 0).flatten) qs _ wr by simpa using HN.o);clear HN;go_loopw [3,27] (fun v s8 wr=>∃ (k:Nat) (qs:List Addr),k≤n1∧s8=bR (k:Int)∧Hid (jo w a (L1++((ix (jd r) x.steps).take k).flatten) qs v wr)) (fun _ s8 _=>n1 - (intOf s8).toNat);(case atStart=>exact⟨0,_,Nat.zero_le _,rfl,HS⟩);clear HS;obtain⟨k,qs,hk2,rfl,HN⟩:=hrel;by_cases hlt2:k<n1;case pos=>
   have qW:k<x.steps.length:=by have:=lW.o;omega
   obtain⟨b1,o1,cs1,ZG,_,hb1,⟨B1,d1,B2,d2,B3,d3,qg,s1,s2,s3⟩,fA⟩:=HST.o.get qW
   subst qg
   obtain⟨y,hy⟩:∃ y,x.steps[k]? =some y:=⟨_,List.getElem?_eq_getElem qW⟩
   have Bp:x.steps[k]=y:=Option.some.inj ((List.getElem?_eq_getElem qW).symm.trans hy)
   rw[Bp]at fA s1 s2 s3
   have HYB:=aa (SV.o y (List.mem_of_getElem? hy))
   obtain⟨hy1,hy2,hy3⟩:=nE HYB.o
   have EZ:=aa (show((ix (jd r) x.steps).take (k+1)).flatten=((ix (jd r) x.steps).take k).flatten++jd r k y from zn (by rw[fP,hy];rfl))
   have hL2:=YV.o k
   generalize ((ix (jd r) x.steps).take k).flatten=L2 at HN EZ hL2
   subst ZG
   have Z0:bW w b1 (o1+k*6) (bR y.kind):=fA 0 _ rfl
   have z0:bW wr b1 (o1+k*6) (bR y.kind):=(HN.o.bU.cell (p:=bS b1 (o1+k*6)) hb1).trans Z0
   replace Z0:=aa Z0
   have Z1:bW w b1 (o1+k*6+1) (bQ B1 y.inp d1):=fA 1 _ rfl
   have z1:bW wr b1 (o1+k*6+1) (bQ B1 y.inp d1):=(HN.o.bU.cell (p:=bS b1 (o1+k*6+1)) hb1).trans Z1
   replace Z1:=aa Z1
   have Z2:bW w b1 (o1+k*6+2) (bQ B2 y.o d2):=fA 2 _ rfl
   have z2:bW wr b1 (o1+k*6+2) (bQ B2 y.o d2):=(HN.o.bU.cell (p:=bS b1 (o1+k*6+2)) hb1).trans Z2
   replace Z2:=aa Z2
   have Z3:bW w b1 (o1+k*6+3) (bV y.name):=fA 3 _ rfl
   have z3:bW wr b1 (o1+k*6+3) (bV y.name):=(HN.o.bU.cell (p:=bS b1 (o1+k*6+3)) hb1).trans Z3
   replace Z3:=aa Z3
   have Z4:bW w b1 (o1+k*6+4) (bQ B3 y.cells d3):=fA 4 _ rfl
   have z4:bW wr b1 (o1+k*6+4) (bQ B3 y.cells d3):=(HN.o.bU.cell (p:=bS b1 (o1+k*6+4)) hb1).trans Z4
   replace Z4:=aa Z4
   have sY:=aa s1
   have m_:=aa s2
   have Ss:=aa s3
   clear fA Bp hy qW s1 s2 s3
   have x8:bW wr p 8 (bQ (bS b o) n8 q8):=(HC.o wr 8 HN.o.bU).trans X8.o
   have y1:bW wr b (o+r*2+1) (bQ (bS b1 o1) n1 c9):=(HN.o.bU.cell (p:=bS b (o+r*2+1)) hb).trans Y1.o
   go_upto_region 9 with fail
   clear x8 y1 z0 z3
   refine dz (S:=fun d w'=>if d=3 then w'.cell? (bS b1 (o1+k*6+1))=some (bQ B1 y.inp d1)else if d=7 then w'.cell? (bS b1 (o1+k*6+2))=some (bQ B2 y.o d2)else if d=11 then w'.cell? (bS b1 (o1+k*6+4))=some (bQ B3 y.cells d3)else True) [0,4,8,14,1,5,9,2,6,10,3,7,11,13] [(0,false),(4,false),(8,false),(14,false),(1,false),(5,false),(9,false),(2,false),(6,false),(10,false),(3,false),(7,false),(11,false),(12,true),(13,false)] ai ai au rfl ai (⟨trivial,trivial,trivial,trivial,trivial,trivial,trivial,trivial,trivial,trivial,z1,z2,z4,trivial,trivial⟩) ?_
   refine dZ ?_
   refine dZ ?_
   refine dZ ?_
   refine dZ ?_
   refine dZ ?_
   refine dZ ?_
   refine dZ ?_
   refine dZ ?_
   refine dZ ?_
   refine dZ ?_
   refine dZ ?_
   refine dZ ?_
   refine dZ ?_
   refine eY [14,13] fun K hK=>?_
   go_simp
   refine hK.o _ _ (⟨trivial,trivial,trivial⟩) ?_
   clear hK K
   refine dZ ?_
   refine gb ?_
   try go_frame
   have hvb:∀ g,u3.ownBlock=some g→g<wr.heap.size:=fun g hg=>(HN.o.own.lt g hg).2
   have HK:=aa (show cH (wr.alloc (.cells #[bQ B1 y.inp d1,bQ B2 y.o d2,bQ B3 y.cells d3] 63)).drew wr 63 [bQ B1 y.inp d1,bQ B2 y.o d2,bQ B3 y.cells d3]∧u3.ownBlock≠some wr.heap.size from⟨heap_alloc_new wr _,fun e=>Nat.lt_irrefl _ (hvb _ e)⟩)
   have HS:=aa (show jo w a (L1++L2++((jO r k y).take 0).flatten) qs u3 (wr.alloc (.cells #[bQ B1 y.inp d1,bQ B2 y.o d2,bQ B3 y.cells d3] 63)).drew by simpa using HN.o.grow (cJ _).drew)
   generalize (wr.alloc (.cells #[bQ B1 y.inp d1,bQ B2 y.o d2,bQ B3 y.cells d3] 63)).drew=w9 at HK HS ⊢
   generalize wr.heap.size=b3 at HK ⊢
   clear HN hvb
   go_wp2_with fail
   go_loopw [3,54] (fun v s8 wr=>∃ (m:Nat) (qs:List Addr),m≤3∧s8=bR (m:Int)∧Hid (jo w a (L1++L2++((jO r k y).take m).flatten) qs v wr)∧Hid (cH wr b3 63 [bQ B1 y.inp d1,bQ B2 y.o d2,bQ B3 y.cells d3]∧v.ownBlock≠some b3)) (fun _ s8 _=>3 - (intOf s8).toNat)
   case atStart=>exact⟨0,_,Nat.zero_le _,rfl,HS,HK⟩
   case round=>
    clear HS HK;obtain⟨m,qs,hk3,rfl,HN,HK⟩:=hrel;by_cases hlt3:m<3;case pos=>
     have H3:∃ (A7:Option Addr) (n7 c7:Nat) (f:Nat→fJ),bW wr b3 m (bQ A7 n7 c7)∧(jO r k y)[m]? =some ((List.range n7).map f)∧n7≤100∧(n7≠0→∃ b2 o2,A7=bS b2 o2∧∀ i,At w a (f i) (bS b2 (o2+i))):=by
      match m,hlt3 with
      |0,_=>exact⟨B1,y.inp.length,d1,.sin r k,HK.o.1.cell 0,rfl,hy1,fun hn=>by
       obtain⟨b2,o2,e,_⟩:=sY.o.addr (fun e=>hn bf);exact⟨b2,o2,e,fun i=>⟨b,o,b1,o1,_,_,b2,o2,_,_,HA8.o,Y1.o,by rw[← e];exact Z1.o,rfl⟩⟩⟩
      |1,_=>exact⟨B2,y.o.length,d2,.qd r k,HK.o.1.cell 1,rfl,hy2,fun hn=>by
       obtain⟨b2,o2,e,_⟩:=m_.o.addr (fun e=>hn bf);exact⟨b2,o2,e,fun i=>⟨b,o,b1,o1,_,_,b2,o2,_,_,HA8.o,Y1.o,by rw[← e];exact Z2.o,rfl⟩⟩⟩
      |2,_=>exact⟨B3,y.cells.length,d3,.kG r k,HK.o.1.cell 2,rfl,hy3,fun hn=>by
       obtain⟨b2,o2,e,_⟩:=Ss.o.addr (fun e=>hn bf);exact⟨b2,o2,e,fun i=>⟨b,o,b1,o1,_,_,b2,o2,_,_,HA8.o,Y1.o,by rw[← e];exact Z4.o,rfl⟩⟩⟩
     obtain⟨A7,n7,c7,f,hc7,hf7,hn7,MU⟩:=H3;have YM:=aa MU;have HTK3:=aa (show((jO r k y).take (m+1)).flatten=((jO r k y).take m).flatten++(List.range n7).map f from zn hf7);have hL3:((jO r k y).take m).flatten.length≤300:=by
      have:=jA (c:=100) (ls:=(jO r k y).take m) fun l hl=>by
       have hl:=List.mem_of_mem_take hl;simp only[jO,List.mem_cons,List.not_mem_nil,or_false]at hl;rcases hl with rfl|rfl|rfl<;>simp<;>assumption
      simp only[List.length_take,jO,List.length_cons,List.length_nil]at this ⊢;omega
     clear hf7 MU;generalize ((jO r k y).take m).flatten=L3 at HN HTK3 hL3;have hm3:decide ((m:Int)<3)=true:=aq;go_wp2_with fail;have HS:=aa (show jo w a (L1++L2++L3++(List.range 0).map f) qs _ wr by simpa using HN.o);clear HN hc7;go_loopw [3,60] (fun v s8 wr=>∃ (i:Nat) (qs:List Addr),i≤n7∧s8=bR (i:Int)∧Hid (jo w a (L1++L2++L3++(List.range i).map f) qs v wr)∧Hid (cH wr b3 63 [bQ B1 y.inp d1,bQ B2 y.o d2,bQ B3 y.cells d3]∧v.ownBlock≠some b3)) (fun _ s8 _=>n7 - (intOf s8).toNat);(case atStart=>exact⟨0,_,Nat.zero_le _,rfl,HS,HK⟩);clear HS HK;obtain⟨i,qs,hk4,rfl,HN,HK⟩:=hrel;by_cases hlt4:i<n7;(case pos=>obtain⟨b2,o2,hA2,hat⟩:=YM.o af;subst hA2;have Ud:=aa (hat i);clear hat;have qN:=HN.o.ok.1;simp only[List.length_append,List.length_map,List.length_range]at qN;have Ak:=aa qN;clear qN;go_wp2_with (at_builtin;refine cC (R:=mR) (S:=Any) (xs:=qs) (ys:=[bS b2 (o2+i)]) (T:=72) (t:=69) (B:=w) rfl (.tmp 63) (.tmp 67) 69 rfl rfl qM (HN.o.own.bU (cJ _)) rfl _ 1 1 rfl rfl ?hN ?hl ?hB rfl (n:=qs.length+1) rfl ?_);(case hN=>exact rH.iV (R:=mR) (cs:=[_]) rfl _ rfl);(case hl=>rw[Ak.o];omega);(case hB=>have:=HN.o.bU.size;simp;omega);intro A9 c9 w9 jw HG;have wZ:=aa (HN.o.more _ HG.o (l:=f i) (Ud.o));rw[← j4]at wZ;have HK9:=aa (jo.aside HK.o HG.o);clear HG HN HK Ak;go_wp2_with fail;go_roundw;(case rel=>exact⟨i+1,_,by omega,rfl,wZ,HK9⟩);(case measure=>simp[intOf];omega));rw[show i=n7 by omega]at HN;have HS:=aa (show jo w a (L1++L2++((jO r k y).take (m+1)).flatten) qs _ wr by rw[HTK3.o, ← List.append_assoc];exact HN.o);clear HN;go_wp2_with fail;go_roundw;(case rel=>exact⟨m+1,_,by omega,rfl,HS,HK⟩);(case measure=>simp[intOf];omega)
    have hm3:decide ((m:Int)<3)=false:=aq;rw[show m=3 by omega,show(jO r k y).take 3=jO r k y from rfl]at HN;clear HK hlt3 hk3;have hLP:(jO r k y).flatten.length≤300:=(by simp[jO];omega);have E0:=aa (K8 r k y);generalize (jO r k y).flatten=L3 at HN E0 hLP;have z0:bW wr b1 (o1+k*6) (bR y.kind):=(HN.o.bU.cell (p:=bS b1 (o1+k*6)) hb1).trans Z0.o;have z3:bW wr b1 (o1+k*6+3) (bV y.name):=(HN.o.bU.cell (p:=bS b1 (o1+k*6+3)) hb1).trans Z3.o;have HSN:=aa (show gz y=(!fR y.name&& !(y.kind==7))from rfl);have HAN:=aa (show At w a (.jR r k) (bS b1 (o1+k*6+3))from⟨b,o,b1,o1,_,_,HA8.o,Y1.o,rfl⟩);have iz:=aa (fo y.name);obtain⟨nm,hnm⟩:∃ nm,nm=y.name:=⟨_,rfl⟩;rw[← hnm]at z3 HSN iz;clear hnm;obtain⟨kd,Wz⟩:∃ kd,kd=y.kind:=⟨_,rfl⟩;rw[← Wz]at z0 HSN;clear Wz;have rz:(nm.toList==[])=nm.toList.isEmpty:=(by rw[nil_eq,fo]);have GC:=aa (show fR nm=nm.toList.isEmpty from iz.o.symm);cases hne:nm.toList.isEmpty with
    |true=>
     have HE:=aa (GC.o.trans hne);rw[hne]at rz;clear hne;have HS:=aa (show jo w a (L1++(((ix (jd r) x.steps).take (k+1)).flatten)) _ _ wr by rw[EZ.o,E0.o,HSN.o,HE.o];simpa [List.append_assoc]using HN.o);clear HN;go_wp2_with fail;go_roundw;(case rel=>exact⟨k+1,_,by omega,rfl,HS⟩);(case measure=>simp[intOf];omega)
    |false=>
     have HE:=aa (GC.o.trans hne);rw[hne]at rz;clear hne;cases WA:kd==7 with
     |true=>
      have HK7:=aa WA;have e1:(kd != 7)=false:=(by rw[bne,WA];rfl);have e2:kd=7:=(by simpa using WA);clear WA;have HS:=aa (show jo w a (L1++(((ix (jd r) x.steps).take (k+1)).flatten)) _ _ wr by rw[EZ.o,E0.o,HSN.o,HE.o,HK7.o];simpa [List.append_assoc]using HN.o);clear HN e2;go_wp2_with fail;go_roundw;(case rel=>exact⟨k+1,_,by omega,rfl,HS⟩);(case measure=>simp[intOf];omega)
     |false=>
      have HK7:=aa WA;have e1:(kd != 7)=true:=(by rw[bne,WA];rfl);clear WA;have qN:=HN.o.ok.1;simp only[List.length_append]at qN;have Ak:=aa qN;clear qN;go_wp2_with (at_builtin;refine cC (R:=mR) (S:=Any) (xs:=qs) (ys:=[bS b1 (o1+k*6+3)]) (T:=72) (t:=69) (B:=w) rfl (.tmp 83) (.tmp 87) 69 rfl rfl qM (HN.o.own.bU (cJ _)) rfl _ 1 1 rfl rfl ?hN ?hl ?hB rfl (n:=qs.length+1) rfl ?_);(case hN=>exact rH.iV (R:=mR) (cs:=[_]) rfl _ rfl);(case hl=>rw[Ak.o];omega);(case hB=>have:=HN.o.bU.size;simp;omega);intro A9 c9 w9 jw HG;have wZ:=aa (HN.o.more _ HG.o (l:= .jR r k) (HAN.o));have HS:=aa (show jo w a (L1++(((ix (jd r) x.steps).take (k+1)).flatten)) _ _ w9 by rw[EZ.o,E0.o,HSN.o,HE.o,HK7.o];simpa [List.append_assoc]using wZ.o);clear HN wZ HG Ak;go_wp2_with fail;go_roundw;(case rel=>exact⟨k+1,_,by omega,rfl,HS⟩);(case measure=>simp[intOf];omega)
  rw[show k=n1 by omega,lW.o]at HN;have HS:=aa (show jo w a (((ix sP s.bX).take (r+1)).flatten) qs _ wr by rw[ew.o];have h9:=HN.o;rw[List.take_of_length_le aav]at h9;exact h9);clear HN;go_wp2_with fail;go_roundw;(case rel=>exact⟨r+1,_,by omega,rfl,HS⟩);(case measure=>simp[intOf];omega)
 rw[show r=n8 by omega,Mg.o,List.take_of_length_le aav]at HN;obtain⟨A9,c9,RX,_⟩:=HN.o.own.slice;subst RX;go_wp2_with fail;exact HP.o (.returned (bQ A9 qs c9)) _ HN.o.ends
section
theorem dy.patch {α:Type} {R:Rel α} {T B g n c j:Nat} {w0 w1:World} {U U':Nat→Prop} {xs:List α} {y:α} (ws:List (Nat×Value)) (h:dy R T B w0 U (bQ (bS g 0) n c) xs) (hn:n=xs.length) (hj:j<xs.length) (hb:cA U w0 w1) (hy:∀ (S:Nat→Prop) cs,(∀ b,S b→b<w0.heap.size)→R.is w1 S cs xs[j]→R.is w1 (fun b=>S b∨w0.heap.size≤b) (sets cs ws) y) (hm:∀ x∈ws,x.1<R.k) (h1:∀ b,b<w0.heap.size→U b→U' b) (h2:∀ b,w0.heap.size≤b→U' b):dy R T B (gY g (j*R.k) w1 ws) U' (bQ (bS g 0) n c) (xs.set j y):=by
 subst hn;obtain⟨t,hU,hr⟩:=h;have hg:=(hr.lt g rfl).2;obtain⟨f1,_,_,_,f5⟩:=fZ (g:=g) (o:=j*R.k) ws w1;have zT:mb R.k T B w1 (bQ (bS g 0) xs c) xs.length fun i cs=>∀ x,xs[i]? =some x→R.is w1 (fun b=>U b∧b≠g∧t b=i∧b<w0.heap.size) cs x:=
  hr.move (fun g' hg'=>hb.2 g' (hr.lt g' hg').2 (hU g' hg')) fun i cs _ he x hx=>R.keep (R.mono (he x hx) fun b hb' q=>⟨q.1,fun e=>q.2.1 bf,q.2.2,hb'⟩) ⟨hb.1,fun b hb' q=>hb.2 b hb' q.1⟩
 have hm2:=zT.gY ws hj hm;refine⟨fun b=>if b<w0.heap.size then t b else j,fun g' hg'=>?_,?_⟩
 (·have e:g=g':=(by simpa [Value.ownBlock]using hg');subst e;exact h1 g hg (hU g rfl));rw[List.length_set];refine hm2.move (fun _ _=>rfl) fun i cs hi he x hx=>?_;by_cases q:i=j
 ·subst q;rw[if_pos rfl]at he;obtain⟨cs0,hl0,he0,e⟩:=he;subst e;have hxy:y=x:=(by rw[List.getElem?_set_self hj]at hx;exact Option.some.inj hx);subst hxy;have h9:=hy _ cs0 (fun b q=>q.2.2.2) (he0 _ (List.getElem?_eq_getElem hj));refine R.mono (R.keep h9 ⟨by omega,fun b _ hb'=>f5 b (fun e=>by subst e;rcases hb' with q|q;(exact q.2.1 rfl);omega)⟩) fun b _ hb'=>?_;rcases hb' with q|q
  (·exact⟨h1 b q.2.2.2 q.1,by simp[Value.ownBlock];exact q.2.1,by simp only[if_pos q.2.2.2];exact q.2.2.1⟩);exact⟨h2 b q,by simp[Value.ownBlock];omega,by simp only[if_neg (show ¬b<w0.heap.size by omega)]⟩
 rw[if_neg q]at he;rw[List.getElem?_set_ne (fun e=>q e.symm)]at hx;exact R.mono (R.keep (he x hx) ⟨by omega,fun b _ hb'=>f5 b hb'.2.1⟩) fun b _ hb'=>⟨h1 b hb'.2.2.2 hb'.1,by simp[Value.ownBlock];exact hb'.2.1,by simp only[if_pos hb'.2.2.2];exact hb'.2.2.1⟩
section
variable {w w':World} {a:dU} {l:fJ} {q r:Addr} {n:ByteArray}
theorem At.move (h:At w a l q) (hk:∀ (b i:Nat) A n c,bW w b i (bQ A n c)→bW w' b i (bQ A n c)):At w' a l q:=by
 cases l with
 |sin r k n=>
  obtain⟨b,o,b1,o1,l1,c1,b2,o2,l2,c2,hA,h1,h2,hq⟩:=h;exact⟨b,o,b1,o1,l1,c1,b2,o2,l2,c2,hA,hk _ _ _ _ _ h1,hk _ _ _ _ _ h2,hq⟩
 |qd r k n=>
  obtain⟨b,o,b1,o1,l1,c1,b2,o2,l2,c2,hA,h1,h2,hq⟩:=h;exact⟨b,o,b1,o1,l1,c1,b2,o2,l2,c2,hA,hk _ _ _ _ _ h1,hk _ _ _ _ _ h2,hq⟩
 |kG r k n=>
  obtain⟨b,o,b1,o1,l1,c1,b2,o2,l2,c2,hA,h1,h2,hq⟩:=h;exact⟨b,o,b1,o1,l1,c1,b2,o2,l2,c2,hA,hk _ _ _ _ _ h1,hk _ _ _ _ _ h2,hq⟩
 |jR r k=>
  obtain⟨b,o,b1,o1,l1,c1,hA,h1,hq⟩:=h;exact⟨b,o,b1,o1,l1,c1,hA,hk _ _ _ _ _ h1,hq⟩
 |imp j=>exact h
 |inp j=>exact h
 |tab j=>exact h
 |fn j=>exact h
 |cell j=>exact h
 |port j=>exact h
 |store j=>exact h
theorem NM {v:Value} (hq:w.cell? q=some (bV n)) (b i:Nat) (A:Option Addr) (m c:Nat) (h:bW w b i (bQ A m c)):(w.setCell q v).cell? (bS b i)=some (bQ A m c):=by
 rw[World.cell?_setCell_other _ _ _ _ (fun e=>by rw[e]at hq;rw[hq]at h;cases h)];exact h
theorem kB {bl:Nat} {t:TypeId} {x:Bool} (hg:w.grownBy w' (some bl)) (hb:cH w bl t [.bool x]) (b i:Nat) (A:Option Addr) (m c:Nat) (h:bW w b i (bQ A m c)):bW w' b i (bQ A m c):=by
 have hlt:=World.block_lt_of_cell? w _ h;rw[vC hg i hlt (fun e=>?_)]
 (·exact h);injection e with e;subst e;have h9:=hb.cell i;rw[h]at h9;cases i<;>simp at h9
end
section
variable {B g j k b1 o1 l1 c1:Nat} {w w1:World} {a:dU} {s:bY} {tag:Tag} {f:eU}
theorem eO.but4 {fs:List eU} {tag':Tag} (h:eO B w a s tag) (ht:∀ b,b<w.heap.size→tag' b=tag b) (K:Uk tag B 4 w w1) (x:dy (uT 78 B) 76 B w1 (UT tag' B 4) (bQ a.A4 fs a.c4) fs):eO B w1 a {s with funcs:=fs} tag':=by
 have kk:∀ {α:Type} {R:Rel α} {T:Nat} {v:Value} {xs:List α} {i:Nat},i≠4→i<10→dy R T B w (UT tag B i) v xs→dy R T B w1 (UT tag' B i) v xs:=fun hi h10 q=>
  (q.mono (U':=fun b=>UT tag B _ b∧b<w.heap.size) (fun b hb' r=>⟨r,hb'⟩)).keep ⟨(K _ hi h10).1,fun b hb' r=>(K _ hi h10).2 b hb' r.1⟩ |>.mono fun b _ r=>⟨r.1.1,by rw[ht b r.2];exact r.1.2⟩
 exact⟨kk ag ag h.i1,kk ag ag h.i2,kk ag ag h.i3,x,kk ag ag h.i5,kk ag ag h.i6,kk ag ag h.i7,kk ag ag h.i8⟩
theorem eO.but5 {cs:List cL} {tag':Tag} (h:eO B w a s tag) (ht:∀ b,b<w.heap.size→tag' b=tag b) (K:Uk tag B 5 w w1) (x:dy dS 56 B w1 (UT tag' B 5) (bQ a.A5 cs a.c5) cs):eO B w1 a {s with cells:=cs} tag':=by
 have kk:∀ {α:Type} {R:Rel α} {T:Nat} {v:Value} {xs:List α} {i:Nat},i≠5→i<10→dy R T B w (UT tag B i) v xs→dy R T B w1 (UT tag' B i) v xs:=fun hi h10 q=>
  (q.mono (U':=fun b=>UT tag B _ b∧b<w.heap.size) (fun b hb' r=>⟨r,hb'⟩)).keep ⟨(K _ hi h10).1,fun b hb' r=>(K _ hi h10).2 b hb' r.1⟩ |>.mono fun b _ r=>⟨r.1.1,by rw[ht b r.2];exact r.1.2⟩
 exact⟨kk ag ag h.i1,kk ag ag h.i2,kk ag ag h.i3,kk ag ag h.i4,x,kk ag ag h.i6,kk ag ag h.i7,kk ag ag h.i8⟩
theorem eO.param (h:eO B w a s tag) (hA:a.A4=bS g 0) (hj:s.funcs[j]? =some f) (hk:k<f.params.length) (hc:bW w g (j*7+1) (bQ (bS b1 o1) l1 c1)):o1=0∧UT tag B 4 b1∧xK w b1 (k*2) f.params[k].name∧∀ v,eO B (w.setCell (bS b1 (k*2)) (bV v)) a {s with funcs:=s.funcs.modify j fun f=>{f with params:=f.params.modify k fun q=>⟨v,q.unit⟩}} tag:=by
 obtain⟨hjl,QV⟩:=List.getElem?_eq_some_iff.1 hj;have h4:=h.i4;rw[hA]at h4;have one:∀ (S:Nat→Prop) cs,(uT 78 B).is w S cs s.funcs[j]→(∀ i u,cs[i]? =some u→bW w g (j*7+i) u)→
  o1=0∧S b1∧xK w b1 (k*2) f.params[k].name∧∀ v,(uT 78 B).is (w.setCell (bS b1 (k*2)) (bV v)) S cs ⟨f.name,f.params.modify k fun q=>⟨v,q.unit⟩,f.body⟩:=fun S cs hs hcs=>by
  rw[QV]at hs
  obtain⟨A,c,es,t,e,q1,q2⟩:=hs
  subst e
  have e1:=(hcs 1 _ rfl).symm.trans hc
  injection e1 with e1
  injection e1 with e1 _ _
  subst e1
  obtain⟨QW,ho⟩:=q1.row rfl aM hk
  subst ho
  obtain⟨g',c',cs',hv,hU,hlt,ep,hcc,hfz⟩:=q1.get aM hk
  injection hv with e1 _ _
  injection e1 with e1
  injection e1 with e1
  subst e1
  refine⟨rfl,hU.1,⟨hlt,?_,hfz _⟩,fun v=>⟨bS b1 0,c,es,t,by simp[List.length_modify],?_,?_⟩⟩
  ·
   exact hcc 0 _ (by rw[show cs'=_ from ep];rfl)
  ·
   rw[kA hk,List.length_set];(exact q1.put1 (i:=0) rfl hk aM fun S cs h=>by rw[show cs=_ from h];rfl)
  ·
   exact q2.keep (rE fun r=>by have:=hU.2;have:=r.2;omega)
 obtain⟨g',c',cs,hv,hU,hlt,ep,hcc,hfz⟩:=h4.get aW hjl;injection hv with e1 _ _;injection e1 with e1;injection e1 with e1;subst e1;obtain⟨p1,_,p3,_⟩:=one _ cs ep hcc;have p2:UT tag B 4 b1:=(h4.deep (b0:=b1) (i:=k*2) (u:=bV f.params[k].name) (y:=_) rfl aW hjl fun S cs' hs hc2=>⟨(one S cs' hs hc2).2.1,(one S cs' hs hc2).2.2.2 _⟩).1;refine⟨p1,p2,p3,fun v=>?_⟩;have h9:=(h4.deep (b0:=b1) (i:=k*2) (u:=bV v) (y:=_) rfl aW hjl fun S cs' hs hc2=>⟨(one S cs' hs hc2).2.1,(one S cs' hs hc2).2.2.2 v⟩).2;refine h.but4 (fun _ _=>rfl) (uG p2 ag) ?_;rw[kA hjl,List.length_set,hA,QV];exact h9
theorem eO.body {v2 v3 v4 v5 v6:Value} {y:cD} (h:eO B w a s tag) (hA:a.A4=bS g 0) (hj:s.funcs[j]? =some f) (hB:B≤w.heap.size) (hb:∀ i,i<10→cA (UT tag B i) w w1) (hy:cR w1 (fun b=>w.heap.size≤b) [v2,v3,v4,v5,v6] y):eO B (gY g (j*7) w1 [(2,v2),(3,v3),(4,v4),(5,v5),(6,v6)]) a {s with funcs:=s.funcs.modify j fun f=>{f with body:=y}} (iO tag w (4,0)):=by
 obtain⟨hjl,QV⟩:=List.getElem?_eq_some_iff.1 hj;have h4:=h.i4;rw[hA]at h4;(have hg:UT tag B 4 g:=by obtain⟨t,hU,_⟩:=h4;exact hU g rfl);(have Jx:g<w.heap.size:=by obtain⟨t,_,hr⟩:=h4;exact(hr.lt g rfl).2);obtain⟨f1,_,_,_,f5⟩:=fZ (g:=g) (o:=j*7) [(2,v2),(3,v3),(4,v4),(5,v5),(6,v6)] w1;have h9:=dy.patch (U':=UT (iO tag w (4,0)) B 4) (y:=⟨f.name,f.params,y⟩) [(2,v2),(3,v3),(4,v4),(5,v5),(6,v6)] h4 rfl hjl (hb 4 ag) (fun S cs hS hs=>by
  rw[QV]at hs;obtain⟨A,c,es,t,e,q1,q2⟩:=hs;have hl:=ja.len q2;subst e;have he:∃ e0 e1 e2 e3 e4,es=[e0,e1,e2,e3,e4]:=by
   have hl5:es.length=5:=hl
   match es,hl5 with
   |[e0,e1,e2,e3,e4],_=>exact⟨e0,e1,e2,e3,e4,rfl⟩
  obtain⟨e0,e1,e2,e3,e4,rfl⟩:=he;refine⟨A,c,[v2,v3,v4,v5,v6],fun b=>if b<w.heap.size then t b else 1,rfl,q1.mono fun b hb' q=>⟨.inl q.1,by simp only[if_pos (hS b q.1)];exact q.2⟩,hy.mono fun b hb' q=>⟨.inr q,by simp only[if_neg (show ¬b<w.heap.size by omega)]⟩⟩)
  bn (fun b hb' q=>⟨q.1,by rw[eK b hb'];exact q.2⟩) (fun b hb'=>⟨by omega,by rw[fV hb'];exact .inl rfl⟩)
 refine h.but4 eK (fun i hi h10=>⟨by have:=(hb i h10).1;omega,fun b hb' q=>(f5 b (fun e=>by
  subst e;have:=hg.2;have:=q.2;omega)).trans ((hb i h10).2 b hb' q)⟩) ?_
 rw[kA hjl,List.length_set,hA,QV];exact h9
theorem eO.iY {c0:cL} {v2 v3 v4 v5 v6:Value} {y:cD} (h:eO B w a s tag) (hA:a.A5=bS g 0) (hj:s.cells[j]? =some c0) (hB:B≤w.heap.size) (hb:∀ i,i<10→cA (UT tag B i) w w1) (hy:cR w1 (fun b=>w.heap.size≤b) [v2,v3,v4,v5,v6] y):eO B (gY g (j*7) w1 [(2,v2),(3,v3),(4,v4),(5,v5),(6,v6)]) a {s with cells:=s.cells.modify j fun c=>{c with iY:=y}} (iO tag w (5,0)):=by
 obtain⟨hjl,QV⟩:=List.getElem?_eq_some_iff.1 hj;have h4:=h.i5;rw[hA]at h4;(have hg:UT tag B 5 g:=by obtain⟨t,hU,_⟩:=h4;exact hU g rfl);(have Jx:g<w.heap.size:=by obtain⟨t,_,hr⟩:=h4;exact(hr.lt g rfl).2);obtain⟨f1,_,_,_,f5⟩:=fZ (g:=g) (o:=j*7) [(2,v2),(3,v3),(4,v4),(5,v5),(6,v6)] w1;have h9:=dy.patch (U':=UT (iO tag w (5,0)) B 5) (y:=⟨c0.name,c0.unit,y⟩) [(2,v2),(3,v3),(4,v4),(5,v5),(6,v6)] h4 rfl hjl (hb 5 ag) (fun S cs hS hs=>by
  rw[QV]at hs;obtain⟨es,e,q2⟩:=hs;have hl:=ja.len q2;subst e;have he:∃ e0 e1 e2 e3 e4,es=[e0,e1,e2,e3,e4]:=by
   have hl5:es.length=5:=hl
   match es,hl5 with
   |[e0,e1,e2,e3,e4],_=>exact⟨e0,e1,e2,e3,e4,rfl⟩
  obtain⟨e0,e1,e2,e3,e4,rfl⟩:=he;exact⟨[v2,v3,v4,v5,v6],rfl,hy.mono fun b hb' q=> .inr q⟩)
  bn (fun b hb' q=>⟨q.1,by rw[eK b hb'];exact q.2⟩) (fun b hb'=>⟨by omega,by rw[fV hb'];exact .inl rfl⟩)
 refine h.but5 eK (fun i hi h10=>⟨by have:=(hb i h10).1;omega,fun b hb' q=>(f5 b (fun e=>by
  subst e;have:=hg.2;have:=q.2;omega)).trans ((hb i h10).2 b hb' q)⟩) ?_
 rw[kA hjl,List.length_set,hA,QV];exact h9
end
structure uZ (p bl bq B:Nat) (w:World) (a:dU) (s:bY) (pr:ByteArray) (log:List ByteArray) (tag:Tag) (wr:World):Prop where
 blk:cH wr p 31 (cn a s)
 res:cH wr (p+2) 31 (gh)
 own:eO B wr a s tag
 put:jq (p+1) bl bq pr log wr
 mark:tag bl=(99,0)∧tag bq=(99,0)
 base:p+3≤B∧B≤bl∧bl<bq
 bU:Below p w wr
section
variable {p bl bq B g j k b1 o1 l1 c1:Nat} {w wr w1:World} {a:dU} {s s':bY} {pr:ByteArray} {log K9:List ByteArray} {tag tag':Tag}
theorem uZ.turn (h:uZ p bl bq B w a s pr log tag wr) (ho:eO B w1 a s' tag') (hsc:cn a s'=cn a s) (hs:wr.heap.size≤w1) (hk:∀ b,b<wr.heap.size→b<B→w1.heap[b]? =wr.heap[b]?) (hw:w1.os=wr.os∧w1.tape=wr.tape∧w1.output=wr.output) (hp:jq (p+1) bl bq pr K9 w1) (ht:∀ b,b<wr.heap.size→tag' b=tag b):uZ p bl bq B w a s' pr K9 tag' w1:=by
 have hb:=h.base;refine⟨?_,?_,ho,hp,⟨by rw[ht bl h.put.long.lt];exact h.mark.1,by rw[ht bq h.put.put.lt];exact h.mark.2⟩,hb,⟨hw.1.trans h.bU.os,hw.2.1.trans h.bU.tape,hw.2.2.trans h.bU.output,Nat.le_trans h.bU.size hs,fun b IM=>?_⟩⟩
 (·rw[hsc];exact(hk p h.blk.lt af).trans h.blk)
 (·exact(hk (p+2) h.res.lt af).trans h.res);exact(hk b (by have:=h.blk.lt;omega) af).trans (h.bU.block b IM)
theorem uZ.xO (h:uZ p bl bq B w a s pr log tag wr) (hk:∀ b,b<wr.heap.size→(∀ i,i<10→¬UT tag B i b)→w1.heap[b]? =wr.heap[b]?):jq (p+1) bl bq pr log w1:=h.put.keep fun r hr=>by
 have hb:=h.base;refine hk r (h.put.lt r hr) fun i hi q=>?_;rcases hr with rfl|rfl|rfl
 (·have:=q.1;omega)
 (·exact yJ hi q h.mark.1);exact yJ hi q h.mark.2
theorem uZ.gX (h:uZ p bl bq B w a s pr log tag wr) (hb:Below wr wr w1):uZ p bl bq B w a s pr log tag w1:=
 h.turn (h.own.bU hb) rfl hb.size (fun b hb' _=>hb.block b hb') ⟨hb.os,hb.tape,hb.output⟩ (h.xO fun b hb' _=>hb.block b hb') fun _ _=>rfl
theorem uZ.scratch (h:uZ p bl bq B w a s pr log tag wr):uZ p bl bq B w a s pr log (iO tag wr (99,0)) wr:=
 h.turn (h.own.gD eK) rfl (Nat.le_refl _) (fun b hb' _=>rfl) ⟨rfl,rfl,rfl⟩ h.put eK
theorem Ds (hm:tag bl=(99,0)) (hg:wr.grownBy w1 (some bl)) (i:Nat) (hi:i<10):cA (UT tag B i) wr w1:=⟨hg.size,fun b hb q=>hg.block b hb fun e=>by injection e with e;subst e;exact yJ hi q hm⟩
theorem uZ.called (h:uZ p bl bq B w a s pr log tag wr) (hg:wr.grownBy w1 (some bl)) (hp:jq (p+1) bl bq pr K9 w1):uZ p bl bq B w a s pr K9 tag w1:=
 h.turn (h.own.Vq fun i hi=>Ds h.mark.1 hg i hi) rfl hg.size (fun b hb' hbB=>hg.block b hb' fun e=>by injection e with e;have:=h.base;omega) ⟨hg.os,hg.tape,hg.output⟩ hp fun _ _=>rfl
theorem K_ (a:dU) (s:bY) (v:ByteArray) (l:fJ):cn a (Dh s v l)=cn a s:=by cases l<;>simp[Dh,cn,List.length_modify]
theorem uZ.name {l:fJ} {q:Addr} {n:ByteArray} (h:uZ p bl bq B w a s pr log tag wr) (hat:At wr a l q) (hn:nameAt s l=some n):wr.cell? q=some (bV n)∧wr.frozen? q=false∧q.block<wr.heap.size∧(∃ i,i<10∧UT tag B i q.block)∧∀ v,uZ p bl bq B w a (Dh s v l) pr log tag (wr.setCell q (bV v)):=by
 obtain⟨h1,h2,h3,⟨i,hi,h4⟩,h5⟩:=h.own.name hat hn;refine⟨h1,h2,h3,⟨i,hi,h4⟩,fun v=>?_⟩;have hk:∀ b,b<wr.heap.size→(∀ i,i<10→¬UT tag B i b)→(wr.setCell q (bV v)).heap[b]? =wr.heap[b]? :=fun b _ hb=>Below.heap_setCell wr q _ b fun e=>hb i hi (by rw[e];exact h4);exact h.turn (h5 v) (K_ a s v l) bM (fun b hb' hbB=>hk b hb' fun i _ q=>by have:=q.1;omega) ⟨rfl,rfl,rfl⟩ (h.xO hk) fun _ _=>rfl
theorem uZ.param {f:eU} (h:uZ p bl bq B w a s pr log tag wr) (hA:a.A4=bS g 0) (hj:s.funcs[j]? =some f) (hk:k<f.params.length) (hc:bW wr g (j*7+1) (bQ (bS b1 o1) l1 c1)):o1=0∧xK wr b1 (k*2) f.params[k].name∧UT tag B 4 b1∧∀ v,uZ p bl bq B w a {s with funcs:=s.funcs.modify j fun f=>{f with params:=f.params.modify k fun q=>⟨v,q.unit⟩}} pr log tag (wr.setCell (bS b1 (k*2)) (bV v)):=by
 obtain⟨h1,h2,h3,h4⟩:=h.own.param hA hj hk hc;refine⟨h1,h3,h2,fun v=>?_⟩;have hk:∀ b,b<wr.heap.size→(∀ i,i<10→¬UT tag B i b)→(wr.setCell (bS b1 (k*2)) (bV v)).heap[b]? =wr.heap[b]? :=fun b _ hb=>Below.heap_setCell wr (bS b1 (k*2)) _ b fun e=>hb 4 ag (by rw[e];exact h2);exact h.turn (h4 v) (by simp[cn,List.length_modify]) bM (fun b hb' hbB=>hk b hb' fun i _ q=>by have:=q.1;omega) ⟨rfl,rfl,rfl⟩ (h.xO hk) fun _ _=>rfl
theorem uH {v2 v3 v4 v5 v6:Value} {i:Nat} (hi:i<10) (hg:UT tag B i g):∀ b,b<w1.heap.size→(∀ i,i<10→¬UT tag B i b)→(gY g (j*7) w1 [(2,v2),(3,v3),(4,v4),(5,v5),(6,v6)]).heap[b]? =w1.heap[b]? :=fun b _ hb=>
 (fZ (g:=g) (o:=j*7) [(2,v2),(3,v3),(4,v4),(5,v5),(6,v6)] w1).2.2.2.2 b fun e=>hb i hi (by rw[e];exact hg)
theorem uZ.body {f:eU} {v2 v3 v4 v5 v6:Value} {y:cD} (h:uZ p bl bq B w a s pr log tag wr) (hA:a.A4=bS g 0) (hj:s.funcs[j]? =some f) (hg:wr.grownBy w1 (some bl)) (hp:jq (p+1) bl bq pr K9 w1) (hy:cR w1 (fun b=>wr.heap.size≤b) [v2,v3,v4,v5,v6] y):uZ p bl bq B w a {s with funcs:=s.funcs.modify j fun f=>{f with body:=y}} pr K9 (iO tag wr (4,0)) (gY g (j*7) w1 [(2,v2),(3,v3),(4,v4),(5,v5),(6,v6)]):=by
 have hb:=h.base;have Qn:=h.put.put.lt;have ho:=h.own.body hA hj af (Ds h.mark.1 hg) hy;have h4:=h.own.i4;rw[hA]at h4;(have MS:UT tag B 4 g:=by obtain⟨t,hU,_⟩:=h4;exact hU g rfl);obtain⟨f1,f2,f3,f4,f5⟩:=fZ (g:=g) (o:=j*7) [(2,v2),(3,v3),(4,v4),(5,v5),(6,v6)] w1;have h1:=h.called hg hp;have hgs:=hg.size;exact h.turn ho (by simp[cn,List.length_modify]) af (fun b hb' hbB=>(uH ag MS b af fun i _ q=>by have:=q.1;omega).trans (hg.block b hb' fun e=>by injection e with e;omega)) ⟨f2.trans hg.os,f3.trans hg.tape,f4.trans hg.output⟩ (h1.xO (uH ag MS)) eK
theorem uZ.iY {c0:cL} {v2 v3 v4 v5 v6:Value} {y:cD} (h:uZ p bl bq B w a s pr log tag wr) (hA:a.A5=bS g 0) (hj:s.cells[j]? =some c0) (hg:wr.grownBy w1 (some bl)) (hp:jq (p+1) bl bq pr K9 w1) (hy:cR w1 (fun b=>wr.heap.size≤b) [v2,v3,v4,v5,v6] y):uZ p bl bq B w a {s with cells:=s.cells.modify j fun c=>{c with iY:=y}} pr K9 (iO tag wr (5,0)) (gY g (j*7) w1 [(2,v2),(3,v3),(4,v4),(5,v5),(6,v6)]):=by
 have hb:=h.base;have Qn:=h.put.put.lt;have ho:=h.own.iY hA hj af (Ds h.mark.1 hg) hy;have h4:=h.own.i5;rw[hA]at h4;(have MS:UT tag B 5 g:=by obtain⟨t,hU,_⟩:=h4;exact hU g rfl);obtain⟨f1,f2,f3,f4,f5⟩:=fZ (g:=g) (o:=j*7) [(2,v2),(3,v3),(4,v4),(5,v5),(6,v6)] w1;have h1:=h.called hg hp;have hgs:=hg.size;exact h.turn ho (by simp[cn,List.length_modify]) af (fun b hb' hbB=>(uH ag MS b af fun i _ q=>by have:=q.1;omega).trans (hg.block b hb' fun e=>by injection e with e;omega)) ⟨f2.trans hg.os,f3.trans hg.tape,f4.trans hg.output⟩ (h1.xO (uH ag MS)) eK
end
def F5 (p bl bq B B':Nat) (w:World) (a:dU) (s:bY) (pr:ByteArray) (qs:List Addr) (v:Value) (k:Nat) (wr:World):Prop:=
 ∃ tag,uZ p bl bq B w a (lz (xJ pr ((j3 s).take k)) s) pr ((bZ s++usedNames s).take k) tag wr∧(∀ b,B'≤b→tag b=(99,0))∧uY wr a (j3 s) qs∧cV mR 72 B' wr (fun _=>False) v qs∧bq<B'
theorem at_det {w:World} {a:dU} {l:fJ} {q q':Addr} (h:At w a l q) (h':At w a l q'):q=q':=by
 have two:∀ {A:Option Addr} {b o b' o':Nat} (f:Nat→Nat→Addr),A=bS b o→A=bS b' o'→q=f b o→q'=f b' o'→q=q':=fun f h1 h2 h3 h4=>by
  rw[h1]at h2;injection h2 with h2;injection h2 with e1 e2;rw[h3,h4,e1,e2]
 cases l with
 |sin r k n=>
  obtain⟨b,o,b1,o1,l1,c1,b2,o2,l2,c2,hA,h1,h2,hq⟩:=h;obtain⟨b',o',b1',o1',l1',c1',b2',o2',l2',c2',hA',yC,Cn,hq'⟩:=h';rw[hA]at hA';simp only[Option.some.injEq,Addr.mk.injEq]at hA';rw[hA'.1,hA'.2.1,yC]at h1;simp only[Option.some.injEq,Value.slice.injEq,Addr.mk.injEq]at h1;rw[← h1.1.1, ← h1.1.2.1,Cn]at h2;simp only[Option.some.injEq,Value.slice.injEq,Addr.mk.injEq]at h2;rw[hq,hq',h2.1.1,h2.1.2.1]
 |qd r k n=>
  obtain⟨b,o,b1,o1,l1,c1,b2,o2,l2,c2,hA,h1,h2,hq⟩:=h;obtain⟨b',o',b1',o1',l1',c1',b2',o2',l2',c2',hA',yC,Cn,hq'⟩:=h';rw[hA]at hA';simp only[Option.some.injEq,Addr.mk.injEq]at hA';rw[hA'.1,hA'.2.1,yC]at h1;simp only[Option.some.injEq,Value.slice.injEq,Addr.mk.injEq]at h1;rw[← h1.1.1, ← h1.1.2.1,Cn]at h2;simp only[Option.some.injEq,Value.slice.injEq,Addr.mk.injEq]at h2;rw[hq,hq',h2.1.1,h2.1.2.1]
 |kG r k n=>
  obtain⟨b,o,b1,o1,l1,c1,b2,o2,l2,c2,hA,h1,h2,hq⟩:=h;obtain⟨b',o',b1',o1',l1',c1',b2',o2',l2',c2',hA',yC,Cn,hq'⟩:=h';rw[hA]at hA';simp only[Option.some.injEq,Addr.mk.injEq]at hA';rw[hA'.1,hA'.2.1,yC]at h1;simp only[Option.some.injEq,Value.slice.injEq,Addr.mk.injEq]at h1;rw[← h1.1.1, ← h1.1.2.1,Cn]at h2;simp only[Option.some.injEq,Value.slice.injEq,Addr.mk.injEq]at h2;rw[hq,hq',h2.1.1,h2.1.2.1]
 |jR r k=>
  obtain⟨b,o,b1,o1,l1,c1,hA,h1,hq⟩:=h;obtain⟨b',o',b1',o1',l1',c1',hA',yC,hq'⟩:=h';rw[hA]at hA';simp only[Option.some.injEq,Addr.mk.injEq]at hA';rw[hA'.1,hA'.2.1,yC]at h1;simp only[Option.some.injEq,Value.slice.injEq,Addr.mk.injEq]at h1;rw[hq,hq',h1.1.1,h1.1.2.1]
 |imp j=>obtain⟨b,o,h1,h2⟩:=h;obtain⟨b',o',yC,Cn⟩:=h';exact two (fun b o=>⟨b,o+j*6,none⟩) h1 yC h2 Cn
 |inp j=>obtain⟨b,o,h1,h2⟩:=h;obtain⟨b',o',yC,Cn⟩:=h';exact two (fun b o=>⟨b,o+j*3,none⟩) h1 yC h2 Cn
 |tab j=>obtain⟨b,o,h1,h2⟩:=h;obtain⟨b',o',yC,Cn⟩:=h';exact two (fun b o=>⟨b,o+j*3,none⟩) h1 yC h2 Cn
 |fn j=>obtain⟨b,o,h1,h2⟩:=h;obtain⟨b',o',yC,Cn⟩:=h';exact two (fun b o=>⟨b,o+j*7,none⟩) h1 yC h2 Cn
 |cell j=>obtain⟨b,o,h1,h2⟩:=h;obtain⟨b',o',yC,Cn⟩:=h';exact two (fun b o=>⟨b,o+j*7,none⟩) h1 yC h2 Cn
 |port j=>obtain⟨b,o,h1,h2⟩:=h;obtain⟨b',o',yC,Cn⟩:=h';exact two (fun b o=>⟨b,o+j*3,none⟩) h1 yC h2 Cn
 |store j=>obtain⟨b,o,h1,h2⟩:=h;obtain⟨b',o',yC,Cn⟩:=h';exact two (fun b o=>⟨b,o+j*3,none⟩) h1 yC h2 Cn
theorem dy.head {α:Type} {R:Rel α} {T B j n c:Nat} {w:World} {U:Nat→Prop} {A:Option Addr} {xs:List α} {z:α} (h:dy R T B w U (bQ A n c) xs) (hk:0<R.k) (hz:xs[j]? =some z):∃ g cs,A=bS g 0∧R.is w U cs z∧∀ i u,cs[i]? =some u→bW w g (j*R.k+i) u:=by
 obtain⟨hj,e⟩:=List.getElem?_eq_some_iff.1 hz;obtain⟨g,c',cs,hv,_,_,ep,hc,_⟩:=h.get hk hj;injection hv with e1 _ _;exact⟨g,cs,e1,e▸ep,hc⟩
theorem dy.nT {α:Type} {R:Rel α} {T B j n c:Nat} {w:World} {U:Nat→Prop} {A:Option Addr} {xs:List α} {nm:ByteArray} {Q:Prop} (hk:0<R.k) (h:dy R T B w U (bQ A n c) xs) (g:α→ByteArray) (hn:xs[j]?.map g=some nm) (hq:∀ b o,A=bS b o→Q):Q:=by
 cases hz:xs[j]? with
 |none=>rw[hz]at hn;cases hn
 |some z=>
  obtain⟨b,cs,e,_⟩:=h.head hk hz;exact hq b 0 e
theorem eO.at_ {B:Nat} {w:World} {a:dU} {s:bY} {tag:Tag} {l:fJ} {n:ByteArray} (h:eO B w a s tag) (hn:nameAt s l=some n):∃ q,At w a l q:=by
 have str:∀ {r k i:Nat} {f:dV→List ByteArray} (m:Nat),(∀ (S:Nat→Prop) cs y,(lJ 9 B).is w S cs y→∃ A c S',cs[m]? =some (bQ A (f y).length c)∧dy dw 9 B w S' (bQ A (f y).length c) (f y))→
  (s.bX[r]?.bind fun x=>x.steps[k]?.bind fun y=>(f y)[i]?)=some n→∃ b o b1 o1 l1 c1 b2 o2 l2 c2,a.A8=bS b o∧bW w b (o+r*2+1) (bQ (bS b1 o1) l1 c1)∧bW w b1 (o1+k*6+m) (bQ (bS b2 o2) l2 c2):=fun {r k i f} m hf hn=>by
  cases hr:s.bX[r]? with
  |none=>rw[hr]at hn;cases hn
  |some x=>
   rw[hr,Option.bind_some]at hn;cases hk:x.steps[k]? with
   |none=>rw[hk]at hn;cases hn
   |some y=>
    rw[hk,Option.bind_some]at hn;obtain⟨g,cs,hA,⟨A1,c1,e,q⟩,hc⟩:=h.i8.head aM hr;obtain⟨g1,cs1,ZG,hs1,hc1⟩:=q.head (by show 0<6;decide) hk;obtain⟨A2,c2,S',h2,q2⟩:=hf _ _ _ hs1;obtain⟨g2,vH,hA2,_,_⟩:=q2.head (by show 0<1;decide) hn;subst ZG hA2;refine⟨g,0,g1,0,x.steps.length,c1,g2,0,(f y).length,c2,hA,?_,?_⟩
    (·rw[Nat.zero_add];exact hc 1 _ bf);rw[Nat.zero_add];exact hc1 m _ h2
 cases l with
 |sin r k i=>
  obtain⟨b,o,b1,o1,l1,c1,b2,o2,l2,c2,p1,p2,p3⟩:=str (f:=(·.inp)) 1 (fun S cs y ⟨A1,c1,A2,c2,A3,c3,t,e,k1,k2,k3⟩=>⟨A1,c1,_,by rw[e];rfl,k1⟩) hn;exact⟨_,b,o,b1,o1,l1,c1,b2,o2,l2,c2,p1,p2,p3,rfl⟩
 |qd r k i=>
  obtain⟨b,o,b1,o1,l1,c1,b2,o2,l2,c2,p1,p2,p3⟩:=str (f:=(·.o)) 2 (fun S cs y ⟨A1,c1,A2,c2,A3,c3,t,e,k1,k2,k3⟩=>⟨A2,c2,_,by rw[e];rfl,k2⟩) hn;exact⟨_,b,o,b1,o1,l1,c1,b2,o2,l2,c2,p1,p2,p3,rfl⟩
 |kG r k i=>
  obtain⟨b,o,b1,o1,l1,c1,b2,o2,l2,c2,p1,p2,p3⟩:=str (f:=(·.cells)) 4 (fun S cs y ⟨A1,c1,A2,c2,A3,c3,t,e,k1,k2,k3⟩=>⟨A3,c3,_,by rw[e];rfl,k3⟩) hn;exact⟨_,b,o,b1,o1,l1,c1,b2,o2,l2,c2,p1,p2,p3,rfl⟩
 |jR r k=>
  simp only[nameAt]at hn;cases hr:s.bX[r]? with
  |none=>rw[hr]at hn;cases hn
  |some x=>
   rw[hr,Option.bind_some]at hn;cases hk:x.steps[k]? with
   |none=>rw[hk]at hn;cases hn
   |some y=>
    obtain⟨g,cs,hA,⟨A1,c1,e,q⟩,hc⟩:=h.i8.head aM hr;obtain⟨g1,cs1,ZG,_,_⟩:=q.head (by show 0<6;decide) hk;subst ZG;exact⟨_,g,0,g1,0,x.steps.length,c1,hA,by rw[Nat.zero_add];exact hc 1 _ bf,rfl⟩
 |imp j=>exact dy.nT (R:=gN) (by show 0<6;decide) h.i1 (·.name) hn fun b o e=>⟨_,b,o,e,rfl⟩
 |inp j=>exact dy.nT (R:=jg) bK h.i2 (·.name) hn fun b o e=>⟨_,b,o,e,rfl⟩
 |tab j=>exact dy.nT bK h.i3 (·.name) hn fun b o e=>⟨_,b,o,e,rfl⟩
 |fn j=>exact dy.nT aW h.i4 (·.name) hn fun b o e=>⟨_,b,o,e,rfl⟩
 |cell j=>exact dy.nT aW h.i5 (·.name) hn fun b o e=>⟨_,b,o,e,rfl⟩
 |port j=>exact dy.nT (R:=lH) bK h.i6 (·.name) hn fun b o e=>⟨_,b,o,e,rfl⟩
 |store j=>exact dy.nT (R:=jh) bK h.i7 (·.name) hn fun b o e=>⟨_,b,o,e,rfl⟩
section
variable {p bl bq B B' k:Nat} {w wr w4 w5 w6 w7:World} {a:dU} {s:bY} {pr:ByteArray} {qs qs1 qs2:List Addr} {v v1 v7:Value} {tag:Tag}
theorem uY.move {ls:List fJ} (h:uY w a ls qs) (hk:∀ (b i:Nat) A n c,bW w b i (bQ A n c)→bW wr b i (bQ A n c)):uY wr a ls qs:=⟨h.1,fun i l q h1 h2=>(h.2 i l q h1 h2).move hk⟩
theorem sH {B:Nat} (hb:Below B w wr) (hB:w.heap.size≤B) (b i:Nat) (A:Option Addr) (m c:Nat) (h:bW w b i (bQ A m c)):bW wr b i (bQ A m c):=
 (hb.cell (p:=bS b i) (Nat.lt_of_lt_of_le (World.block_lt_of_cell? w _ h) hB)).trans h
theorem WB {S:Nat→Prop} {m c:Nat} {A:Option Addr} (h:uZ p bl bq B w a s pr [] tag w4) (n1:jo w4 a (gF s) qs1 v1 w5) (n2:jo w5 a (sQ s) qs2 (bQ A m c) w6) (G:Grown mR 72 w4.heap.size w6 S v1 (qs1++qs2) w7 v7):F5 p bl bq B w4 w a s pr (qs1++qs2) v7 0 w7:=by
 have h6:=(h.scratch.gX n1.bU).gX n2.bU;have hrow:∀ g,v1.ownBlock=some g→w4.heap.size≤g:=fun g hg=>(n1.own.lt g hg).1;have hs6:=Nat.le_trans n1.bU.size n2.bU.size;have hb:=h.base;have Qn:=h.put.put.lt;(have WA:∀ b,b<w4.heap.size→w7.heap[b]? =w6.heap[b]? :=fun b hb'=>G.turn.block b af fun e=>by have:=hrow b e.symm;omega);have K:∀ b i A n c,bW w4 b i (bQ A n c)→bW w7 b i (bQ A n c):=fun b i A n c q=>by
  have hlt:=World.block_lt_of_cell? w4 _ q;rw[World.cell?_of_block (a:=bS b i) (WA b hlt)];exact sH n2.bU (by have:=n1.bU.size;omega) _ _ _ _ _ (sH n1.bU (Nat.le_refl _) _ _ _ _ _ q)
 have N:∀ {i:Nat} {l:fJ},(sQ s)[i]? =some l→∃ n,nameAt s l=some n:=fun {i l} hl=>by
  have hm:l∈j3 s:=List.mem_append_right _ (List.mem_of_getElem? hl);have h9:nameAt s l∈(j3 s).map (nameAt s):=List.mem_map.2 ⟨l,hm,rfl⟩;rw[sG]at h9;obtain⟨n,_,e⟩:=List.mem_map.1 h9;exact⟨n,e.symm⟩
 have hA:uY w7 a (j3 s) (qs1++qs2):=by
  refine⟨by simp[j3,n1.ok.1,n2.ok.1],fun i l q h1 h2=>?_⟩;unfold j3 at h1;rcases Nat.lt_or_ge i (gF s).length with hi|hi
  (·rw[List.getElem?_append_left hi]at h1;rw[List.getElem?_append_left (by rw[n1.ok.1];exact hi)]at h2;exact(n1.ok.2 i l q h1 h2).move K);rw[List.getElem?_append_right hi]at h1;rw[List.getElem?_append_right (by rw[n1.ok.1];exact hi),n1.ok.1]at h2;have h5:=n2.ok.2 _ l q h1 h2;obtain⟨n,hn⟩:=N h1;obtain⟨q',h4⟩:=h.own.at_ hn;have e:q=q':=at_det h5 (h4.move fun b i A n c q=>sH n1.bU (Nat.le_refl _) _ _ _ _ _ q);rw[e];exact h4.move K
 refine⟨iO tag w4 (99,0),?_,fun b hb'=>fV hb',hA,G.own,by omega⟩;rw[List.take_zero,List.take_zero];have e:lz (xJ pr []) s=s:=by
  rw[show xJ pr []=fun _ n=>n from by funext l n;simp[xJ]];exact updS_id s
 rw[e];exact h6.turn (h6.own.Vq fun i hi=>⟨G.turn.size,fun b hb' q=>G.turn.block b hb' fun e=>yJ hi q (fV (hrow b e.symm))⟩) rfl G.turn.size (fun b hb' hbB=>WA b af) ⟨G.turn.os,G.turn.tape,G.turn.output⟩ (h6.put.keep fun r hr=>WA r (h.put.lt r hr)) fun _ _=>rfl
theorem pf_step (h:F5 p bl bq B B' w a s pr qs v k wr) (hr:cN s=true) (hk:k<(j3 s).length):∃ b o c qb qo n,v=bQ (bS b o) (j3 s).length c∧bW wr b (o+k) (.pointer (bS qb qo))∧bW wr qb qo (bV n)∧n.size≤20∧bW wr bq 0 (.func (.func 29) #[] #[.pointer (bS (p+1) 0),.pointer (bS bl 0)])∧jq (p+1) bl bq pr ((bZ s++usedNames s).take k) wr∧∀ w1,jq (p+1) bl bq pr ((bZ s++usedNames s).take k++[n]) w1→wr.grownBy w1 (some bl)→bW w1 qb qo (bV n)∧w1.frozen? (bS qb qo)=false∧F5 p bl bq B B' w a s pr qs v (k+1) (w1.setCell (bS qb qo) (bV (er pr n))):=by
 obtain⟨tag,hB,ht,hP,hO,Qn⟩:=h;(have LX:(bZ s++usedNames s).length=(j3 s).length:=by have:=congrArg List.length (sG s);simpa using this.symm);obtain⟨l,hl⟩:∃ l,(j3 s)[k]? =some l:=⟨_,List.getElem?_eq_getElem hk⟩;obtain⟨n,hn⟩:∃ n,(bZ s++usedNames s)[k]? =some n:=⟨_,List.getElem?_eq_getElem af⟩;obtain⟨q,hq⟩:∃ q,qs[k]? =some q:=⟨_,List.getElem?_eq_getElem (by rw[hP.1];exact hk)⟩;have hnl2:nameAt s l=some n:=by
  have h9:=congrArg (fun x=>x[k]?) (sG s);simp only[List.getElem?_map,hl,hn,Option.map_some]at h9;exact Option.some.inj h9
 have hat:=hP.2 k l q hl hq;obtain⟨e1,e2⟩:=Wm (p:=pr) hl hnl2;have hsm:=K5 hr n (List.mem_of_getElem? hn);obtain⟨A,c,hv,_⟩:=hO.slice;have hqk:k<qs.length:=(by rw[hP.1];exact hk);have qN:=hP.1;subst hv;obtain⟨b,o,cs,hA,_,hblt,ep,dn⟩:=(hO.sq (S:=Any) fun _ _ _=>trivial).get hqk;subst hA;have hqk2:qs[k]=q:=Option.some.inj ((List.getElem?_eq_getElem hqk).symm.trans hq);have hcs:cs=[.pointer (some q)]:=(by rw[← hqk2];exact ep);subst hcs;(have hrow:bW wr b (o+k) (.pointer (some q)):=by have:=dn 0 _ rfl;rw[show mR.k=1 from rfl,Nat.mul_one]at this;exact this);have hqn:∃ qb qo,q=bS qb qo:=by
  cases l with
  |sin r k n=>obtain⟨_,_,_,_,_,_,_,_,_,_,_,_,_,e⟩:=hat;exact⟨_,_,e⟩
  |qd r k n=>obtain⟨_,_,_,_,_,_,_,_,_,_,_,_,_,e⟩:=hat;exact⟨_,_,e⟩
  |kG r k n=>obtain⟨_,_,_,_,_,_,_,_,_,_,_,_,_,e⟩:=hat;exact⟨_,_,e⟩
  |jR r k=>obtain⟨_,_,_,_,_,_,_,_,e⟩:=hat;exact⟨_,_,e⟩
  |imp j=>obtain⟨_,_,_,e⟩:=hat;exact⟨_,_,e⟩
  |inp j=>obtain⟨_,_,_,e⟩:=hat;exact⟨_,_,e⟩
  |tab j=>obtain⟨_,_,_,e⟩:=hat;exact⟨_,_,e⟩
  |fn j=>obtain⟨_,_,_,e⟩:=hat;exact⟨_,_,e⟩
  |cell j=>obtain⟨_,_,_,e⟩:=hat;exact⟨_,_,e⟩
  |port j=>obtain⟨_,_,_,e⟩:=hat;exact⟨_,_,e⟩
  |store j=>obtain⟨_,_,_,e⟩:=hat;exact⟨_,_,e⟩
 obtain⟨qb,qo,rfl⟩:=hqn;obtain⟨hc,_⟩:=hB.name hat e1;refine⟨b,o,c,qb,qo,n,by rw[qN],hrow,hc,hsm,hB.put.put.cell 0,hB.put,fun w1 zS hg1=>?_⟩;have Vb:=hB.called hg1 zS;have hP1:uY w1 a (j3 s) qs:=hP.move fun b i A n c q=>kB hg1 hB.put.long b i A n c q;obtain⟨c1,f1,l1,⟨i,hi,hu⟩,h5⟩:=Vb.name (hP1.2 k l _ hl hq) e1;refine⟨c1,f1,tag,?_,ht,hP1.move fun b i A n c q=>NM c1 b i A n c q,?_,Qn⟩
 (·have h9:=h5 (er pr n);rw[e2]at h9;rw[show(bZ s++usedNames s).take (k+1)=(bZ s++usedNames s).take k++[n] by rw[List.take_add_one,hn];rfl];exact h9);have hbb:=hB.base;have h1:=hO.grown hg1 (fun r e=>by injection e with e;omega) (fun b hb=>hb.elim);refine h1.grown (row:=some qb) ⟨rfl,rfl,rfl,by simp[World.setCell],fun b _ hr=>Below.heap_setCell w1 (bS qb qo) _ b fun e=>hr (by rw[e])⟩ (fun r e=>?_) (fun b hb=>hb.elim);injection e with e;subst e;rcases Nat.lt_or_ge qb B' with q|q
 (·exact q);exact(yJ hi hu (ht qb q)).elim
theorem pf_done (h:F5 p bl bq B B' w a s pr qs v (j3 s).length wr):∃ tag,uZ p bl bq B w a (mU pr s) pr (bZ s++usedNames s) tag wr:=by
 obtain⟨tag,hB,_⟩:=h;(have LX:(bZ s++usedNames s).length=(j3 s).length:=by have:=congrArg List.length (sG s);simpa using this.symm);rw[List.take_length,Wl,List.take_of_length_le af]at hB;exact⟨tag,hB⟩
end
theorem ptr_ext {T B:Nat} {w:World} {S S':Nat→Prop} {A:Option Addr} {n c:Nat} {qs:List Addr} (h:cV mR T B w S (bQ A n c) qs):rH mR w S' A qs:=by
 obtain⟨css,h1,h2,h3⟩:=(h.sq (S:=Any) fun _ _ _=>trivial);exact⟨css,h1,h2.mono fun _ _ _=>trivial,fun j cs x hc hx=>h3 j cs x hc hx⟩
theorem zo (s:bY):(gF s).length=(uses s).length:=by
 simp[gF,uses,ei,eE];omega
theorem SX {s:bY} (hr:cN s=true):(sQ s).length≤3010000:=by
 have h1:=Dr (k:=s.bX.length) (s:=s) (fun x hx=>((dm hr).bX x hx).2) (by have:=(dm hr).len;omega)
 rwa [List.take_of_length_le aav]at h1
theorem j5 {w w':World} {row:Option Nat} (h:w.drew.grownBy w' row):w.grownBy w' row:=⟨h.os,h.tape,h.output,h.size,h.block⟩
def sI (p bl bq B:Nat) (w:World) (a:dU) (s:bY) (pr:ByteArray) (k m:Nat) (ls:List ByteArray) (wr:World):Prop:=∃ tag,uZ p bl bq B w a {s with funcs:=xN pr k m s.funcs} pr ls tag wr
def Hx (p bl bq B:Nat) (w:World) (a:dU) (s:bY) (pr:ByteArray) (k:Nat) (ls:List ByteArray) (wr:World):Prop:=∃ tag,uZ p bl bq B w a {s with cells:=Dn pr k s.cells} pr ls tag wr
section
variable {p bl bq B k m:Nat} {w wr:World} {a:dU} {s:bY} {pr:ByteArray} {ls:List ByteArray} {f:eU} {c0:cL}
theorem F6 {w w1:World} {g k:Nat} {cs:List Value} (hc:∀ i u,cs[i]? =some u→bW w g (k*7+i) u) (hl:cs.length=7) (hb:w1.heap[g]? =w.heap[g]?) (i:Nat) (hi:i<7):∃ v,bW w1 g (k*7+i) v:=
 ⟨cs[i],(World.cell?_of_block (a:=bS g (k*7+i)) hb).trans (hc i _ (List.getElem?_eq_getElem af))⟩
theorem Hy (h:sI p bl bq B w a s pr k m ls wr) (hf:s.funcs[k]? =some f):∃ g A1 c1,a.A4=bS g 0∧bW wr p 4 (bQ (bS g 0) s.funcs a.c4)∧bW wr g (k*7+1) (bQ A1 f.params c1):=by
 obtain⟨tag,h⟩:=h;have h4:=h.own.i4;obtain⟨g,cs,hA,hs,hc⟩:=h4.head aW (Hw (p:=pr) (m:=m) hf);obtain⟨A1,c1,es,t,e,q1,q2⟩:=hs;refine⟨g,A1,c1,hA,?_,?_⟩
 (·have h9:=h.blk.cell 4;rw[h9, ← hA];simp[cn,Wq]);have h9:=hc 1 _ bf;rw[Dp]at h9;exact h9
theorem WC (h:sI p bl bq B w a s pr k m ls wr) (hf:s.funcs[k]? =some f) (hm:m<f.params.length) (hz:∀ q∈f.params,q.name.size≤20):∃ g b1 c1 nm,bW wr p 4 (bQ (bS g 0) s.funcs a.c4)∧bW wr g (k*7+1) (bQ (bS b1 0) f.params c1)∧bW wr b1 (m*2) (bV nm)∧nm.size≤20∧bW wr bq 0 (.func (.func 29) #[] #[.pointer (bS (p+1) 0),.pointer (bS bl 0)])∧jq (p+1) bl bq pr ls wr∧(ls++[nm]=ls++[f.params[m].name])∧∀ w1,jq (p+1) bl bq pr (ls++[nm]) w1→wr.grownBy w1 (some bl)→bW w1 b1 (m*2) (bV nm)∧w1.frozen? (bS b1 (m*2))=false∧sI p bl bq B w a s pr k (m+1) (ls++[nm]) (w1.setCell (bS b1 (m*2)) (bV (er pr nm))):=by
 obtain⟨g,A1,c1,hA,h4,h1⟩:=Hy h hf;obtain⟨tag,h⟩:=h;have YW:=Hw (p:=pr) (m:=m) hf;have hmm:m<(xM pr m f).params.length:=(by rw[Dp];exact hm);obtain⟨g',cs,hA',hs,hc⟩:=h.own.i4.head aW YW;(have e0:g'=g:=by rw[hA]at hA';injection hA' with e;injection e with e _ _;exact e.symm);subst e0;obtain⟨A2,c2,es,t,e,q1,q2⟩:=hs;obtain⟨b1,cs1,ZG,_,_⟩:=q1.head aM (List.getElem?_eq_getElem hmm);have e1:=(hc 1 _ bf).symm.trans h1;injection e1 with e1;injection e1 with e1 _ e2;subst e1 ZG;obtain⟨_,hp,_,_⟩:=h.param hA YW hmm h1;have hnm:=parM_at (p:=pr) hm;rw[hnm]at hp;refine⟨g',b1,c1,f.params[m].name,h4,h1,hp.2.1,hz _ (List.getElem_mem hm),h.put.put.cell 0,h.put,rfl,fun w1 zS hg1=>?_⟩;have Vb:=h.called hg1 zS;have yC:bW w1 g' (k*7+1) (bQ (bS b1 0) f.params c1):=kB hg1 h.put.long _ _ _ _ _ h1;obtain⟨_,hp',_,hst⟩:=Vb.param hA YW hmm yC;rw[hnm]at hp';refine⟨hp'.2.1,hp'.2.2,tag,?_⟩;have h9:=hst (er pr f.params[m].name);rw[← NI hf hm];exact h9
theorem pf_body (h:sI p bl bq B w a s pr k f.params.length ls wr) (hf:s.funcs[k]? =some f):∃ g op n un nm A c es,bW wr p 4 (bQ (bS g 0) s.funcs a.c4)∧bW wr g (k*7+2) (bR op)∧bW wr g (k*7+3) (bR n)∧bW wr g (k*7+4) (bV un)∧bW wr g (k*7+5) (bV nm)∧bW wr g (k*7+6) (bQ A es c)∧(∃ S:Nat→Prop,cR wr S [bR op,bR n,bV un,bV nm,bQ A es c] f.body∧∀ b,S b→some b≠some bl)∧jq (p+1) bl bq pr ls wr∧∀ w1 ls' v2 v3 v4 v5 v6,jq (p+1) bl bq pr ls' w1→wr.grownBy w1 (some bl)→cR w1 (fun b=>wr.heap.size≤b) [v2,v3,v4,v5,v6] (kP pr f.body)→(∀ i,w1.frozen? (bS g i)=false)∧(∀ i,i<7→∃ v,bW w1 g (k*7+i) v)∧sI p bl bq B w a s pr (k+1) 0 ls' (gY g (k*7) w1 [(2,v2),(3,v3),(4,v4),(5,v5),(6,v6)]):=by
 obtain⟨g,A1,c1,hA,h4,h1⟩:=Hy h hf;obtain⟨tag,h⟩:=h;have YW:=Hw (p:=pr) (m:=f.params.length) hf;obtain⟨qW,hkz⟩:=List.getElem?_eq_some_iff.1 YW;have h40:=h.own.i4;rw[hA]at h40;(have MS:UT tag B 4 g:=by obtain⟨t,hU,_⟩:=h40;exact hU g rfl);have hgb:g≠bl:=fun e=>yJ ag MS (by rw[e];exact h.mark.1);obtain⟨g',cc,cs,hv,hU,hlt,ep,hc,hfz⟩:=h40.get aW qW;injection hv with e1 _ _;injection e1 with e1;injection e1 with e1;subst e1;rw[hkz]at ep;obtain⟨A2,c2,es,t,e,q1,q2⟩:=ep;obtain⟨op,n,un,nm,A,c,ar,_,hes,_⟩:=q2.parts;subst hes e;refine⟨g,op,n,un,nm,A,c,ar.length,h4,hc 2 _ rfl,hc 3 _ rfl,hc 4 _ rfl,hc 5 _ rfl,hc 6 _ rfl,⟨_,q2,fun b q e=>yJ (i:=4) ag q.1 (by injection e with e;rw[e];exact h.mark.1)⟩,h.put,fun w1 ls' v2 v3 v4 v5 v6 zS hg1 hy=>?_⟩;have qU:=h.body hA YW hg1 zS hy;refine⟨fun i=>(World.frozen?_of_block (a:=bS g i) (hg1.block g hlt (fun e=>hgb aas))).trans (hfz i),fun i hi=>?_,iO tag wr (4,0),?_⟩
 (·exact F6 hc rfl (hg1.block g hlt (fun e=>hgb aas)) i hi);rw[← SR hf];exact qU
theorem pf_cell (h:Hx p bl bq B w a s pr k ls wr) (hf:s.cells[k]? =some c0):∃ g op n un nm A c es,bW wr p 5 (bQ (bS g 0) s.cells a.c5)∧bW wr g (k*7+2) (bR op)∧bW wr g (k*7+3) (bR n)∧bW wr g (k*7+4) (bV un)∧bW wr g (k*7+5) (bV nm)∧bW wr g (k*7+6) (bQ A es c)∧(∃ S:Nat→Prop,cR wr S [bR op,bR n,bV un,bV nm,bQ A es c] c0.iY∧∀ b,S b→some b≠some bl)∧jq (p+1) bl bq pr ls wr∧∀ w1 ls' v2 v3 v4 v5 v6,jq (p+1) bl bq pr ls' w1→wr.grownBy w1 (some bl)→cR w1 (fun b=>wr.heap.size≤b) [v2,v3,v4,v5,v6] (kP pr c0.iY)→(∀ i,w1.frozen? (bS g i)=false)∧(∀ i,i<7→∃ v,bW w1 g (k*7+i) v)∧Hx p bl bq B w a s pr (k+1) ls' (gY g (k*7) w1 [(2,v2),(3,v3),(4,v4),(5,v5),(6,v6)]):=by
 obtain⟨tag,h⟩:=h;have YW:=celM_at (p:=pr) hf;obtain⟨qW,hkz⟩:=List.getElem?_eq_some_iff.1 YW;obtain⟨g,_,hA,_,_⟩:=h.own.i5.head aW YW;have h40:=h.own.i5;rw[hA]at h40;(have MS:UT tag B 5 g:=by obtain⟨t,hU,_⟩:=h40;exact hU g rfl);have hgb:g≠bl:=fun e=>yJ ag MS (by rw[e];exact h.mark.1);obtain⟨g',cc,cs,hv,hU,hlt,ep,hc,hfz⟩:=h40.get aW qW;injection hv with e1 _ _;injection e1 with e1;injection e1 with e1;subst e1;rw[hkz]at ep;obtain⟨es,e,q2⟩:=ep;obtain⟨op,n,un,nm,A,c,ar,_,hes,_⟩:=q2.parts;subst hes e;refine⟨g,op,n,un,nm,A,c,ar.length,?_,hc 2 _ rfl,hc 3 _ rfl,hc 4 _ rfl,hc 5 _ rfl,hc 6 _ rfl,⟨_,q2,fun b q e=>yJ (i:=5) ag q (by injection e with e;rw[e];exact h.mark.1)⟩,h.put,fun w1 ls' v2 v3 v4 v5 v6 zS hg1 hy=>?_⟩
 (·have h9:=h.blk.cell 5;rw[h9, ← hA];simp[cn,Wt]);have qU:=h.iY hA YW hg1 zS hy;refine⟨fun i=>(World.frozen?_of_block (a:=bS g i) (hg1.block g hlt (fun e=>hgb aas))).trans (hfz i),fun i hi=>?_,iO tag wr (5,0),?_⟩
 (·exact F6 hc rfl (hg1.block g hlt (fun e=>hgb aas)) i hi);rw[← Wu hf];exact qU
end
end
end Go.Proofs.YtkfofnjfihfgkaaGreatDoor
