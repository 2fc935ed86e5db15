/- Parts of the proof, packed (OrdG to R23i); each theorem bears its own conditions. -/
import Derived.NoCompiler
import Derived.DeepKeys4
import Derived.Test.YtfppbjfnllhgcaaGreatPn08
set_option linter.unusedVariables false
set_option linter.unusedSimpArgs false
set_option maxRecDepth 100000
set_option maxHeartbeats 8000000
open Go.Proofs.Tryz
open Go.Lib renaming hid → aa
open Nat renaming le_refl→aaB,le_trans→aaC,zero_le→aaG
open Go.World renaming size_alloc→aaI
open List renaming getElem_mem→aan,length_append→aao,getD_eq_getElem?_getD→aam,mem_singleton→aau,length_map→aap,getD_cons_zero→aal,getD_cons_succ→aak,mem_map→aat,length_take→aaq,replicate→aaw,range→aav
open Go.RowKit.Below renaming refl→aaf,heap_setCell→aae
open Bool renaming and_eq_true→aag
open Array renaming replicate→aad
theorem aZ {p:Prop} (h:p:=by have:=xN.o;omega):p:=h
namespace Go.Proofs.YtfppbjfnllhgcaaGreat
section
open Go Go.RowKit Bg Go.Proofs Sh Kb Go.Maps
section
def jx:Rel Nat:=lX 1 (fun n=>[bU (n:Int)]) (fun _=>rfl) (fun x v hv=>by simp at hv;subst hv;rfl)
def C8:Rel (List Nat) where
 k:=1
 is:=fun w S cs x=>∃ A c,cs=[bW A x c]∧Sq jx w S A x
 len:=fun⟨A,c,h,_⟩=>by rw[h];rfl
 one:=fun⟨A,c,h,_⟩ v hv=>by rw[h]at hv;simp at hv;subst hv;rfl
 keep:=fun⟨A,c,h,k⟩ hk=>⟨A,c,h,k.keep hk⟩
 mono:=fun⟨A,c,h,k⟩ hs=>⟨A,c,h,k.mono hs⟩
theorem TJ:Pj prog 38 3 1:= .of (bU 0) 8 underlying38 ah rfl ak ak
theorem JL:(Tryz.prog.info? 38).map (fun i=>(i.zero,i.size,i.bytes))=some (some (bW none 0 0),1,24):=by kernel_rfl
theorem jc.TK {w:World} {g n:Nat} {S:Int→Bool} (h:jc w g n (yE S)) (k:Int) (hk:(Lit.int .i64 k).wf=true):(Instr.lookup 182 (.map (some g)) (bU k) false).run prog w= .ok (.bool (S k)) w:=by
 obtain⟨D,h1,h2,h3⟩:=h;obtain⟨p1,p2,p3⟩:=h3 k;obtain⟨v,ps,hr,hv⟩:=h1.lookup Bh underlying182 (Ej w) (R:=kR) (zd:= .held (.bool false)) (zp:=[]) rfl (keyOf_int_mk underlying3 hk);rw[hr];simp only[kR,Option.some.injEq,Prod.mk.injEq]at hv;obtain⟨hv,_⟩:=hv;cases hc:S k with
 |true=>exact DataW.held.inj (hv.trans (p2 _ _ (by unfold yE;rw[if_pos hc])))▸rfl
 |false=>exact DataW.held.inj (hv.trans (p3 _ (by unfold yE;rw[if_neg (by rw[hc];simp)])))▸rfl
def kC (B go M:Nat) (w:World) (vs:List Value) (g:List (List Nat)):Prop:=∀ j,j<vs.length→∃ A c,vs[j]? =some (bW A (g.getD j []).length c)∧Sq jx w (fun b=>B≤b∧b≠go∧b<M) A (g.getD j [])
section
variable {B go M M':Nat} {w w':World} {vs:List Value} {g:List (List Nat)} {v:Value}
theorem kC.qK:kC B go M w [] g:=fun j hj=>absurd hj ai
theorem kC.keep (h:kC B go M w vs g) (hk:cB (fun b=>b<M∧b≠go) w w'):kC B go M w' vs g:=fun j hj=>by
 obtain⟨A,c,h1,h2⟩:=h j hj;exact⟨A,c,h1,h2.keep ⟨hk.1,fun b hb q=>hk.2 b hb ⟨q.2.2,q.2.1⟩⟩⟩
theorem kC.mono (h:kC B go M w vs g) (hm:M≤M'):kC B go M' w vs g:=fun j hj=>by
 obtain⟨A,c,h1,h2⟩:=h j hj;exact⟨A,c,h1,h2.mono fun b _ q=>⟨q.1,q.2.1,by omega⟩⟩
theorem kC.more {K:Nat} {r:List Nat} {S:Nat→Prop} (h:kC B go M w vs g) (hO:dM jx 3 K w S v r) (hS:∀ b,¬S b) (hg:g.getD vs.length []=r) (hK:B≤K∧go<K∧M≤K):kC B go w w (vs++[v]) g:=fun j hj=>by
 by_cases e:j<vs.length
 (·obtain⟨A,c,h1,h2⟩:=h j e;exact⟨A,c,by rw[List.getElem?_append_left e];exact h1,h2.mono fun b hb q=>⟨q.1,q.2.1,hb⟩⟩);have ej:j=vs.length:=(by simp at hj;omega);subst ej;obtain⟨A,c,hv,_⟩:=hO.slice;subst hv;refine⟨A,c,by rw[hg];simp,?_⟩;rw[hg];exact((hO.mono (S':=fun b=>K≤b) fun b _ q=>absurd q (hS b)).sq fun b _ q=>q).mono fun b hb q=>⟨by omega,by omega,hb⟩
end
theorem kC.sq {B go:Nat} {w:World} {vs:List Value} {g:List (List Nat)} (h:kC B go w w vs g) (hb:cN w go 38 vs) (hl:vs.length=g.length) (hB:B≤go):Sq C8 w (fun b=>B≤b) (bY go 0) g:=by
 refine⟨vs.map fun v=>[v],by simpa using hl,fun hn=>⟨go,0,rfl,hB,hb.lt,fun j cs hj i v hv=>?_⟩,fun j cs x hc hx=>?_⟩
 ·rw[List.getElem?_map]at hj;cases Ym:vs[j]? with
  |none=>rw[Ym]at hj;cases hj
  |some u=>
   rw[Ym]at hj;injection hj with hj;subst hj;(have hi:i=0:=by have:=(List.getElem?_eq_some_iff.1 hv).1;simpa using this);subst hi;have e:u=v:=(by simpa using hv);subst e;show b_ w go (0+j*1+0) u;rw[show 0+j*1+0=j by omega,hb.cell,Ym]
 rw[List.getElem?_map]at hc;cases Ym:vs[j]? with
 |none=>rw[Ym]at hc;cases hc
 |some u=>
  rw[Ym]at hc;injection hc with hc;subst hc;obtain⟨A,c,h1,h2⟩:=h j (List.getElem?_eq_some_iff.1 Ym).1;rw[Ym]at h1;injection h1 with h1;have hg:g.getD j []=x:=(by rw[aam,hx];rfl);rw[hg]at h1 h2;subst h1;exact⟨A,c,rfl,h2.mono fun b _ q=>q.1⟩
def GD (r:Option (List (List Nat))) (w:World) (e:Ending) (w':World):Prop:=(r=none∧e= .returned (.tuple #[cD,.bool false])∨∃ g A c,r=some g∧e= .returned (.tuple #[bW A g c,.bool true])∧Sq C8 w' (fun b=>w.heap.size≤b) A g)∧Below w w w'
theorem W_ {s:cL} (hr:fQ s=true) (x:cw):(aav s.cells.length).filter (fun k:Nat=>false||yG (kI s.cells s.cells.length) x (k:Int))=wR s.cells x:=by
 unfold wR;refine List.filter_congr fun k hk=>?_;have hk:=List.mem_range.1 hk;rw[List.getElem?_eq_getElem hk,Bool.false_or];show dy _ x=dy _ x;congr 1;funext y;unfold lR isName;congr 1;cases hi:kI s.cells s.cells.length y.name with
 |none=>
  show false=(y.name==s.cells[k].name);symm;refine beq_eq_false_iff_ne.2 fun e=>?_;rw[e,ri (zV hr) hk _ hk]at hi;cases hi
 |some i=>
  show decide ((i:Int)=(k:Int))=(y.name==s.cells[k].name);obtain⟨h1,c,hc,he⟩:=wU _ hi;rw[Bool.eq_iff_iff,decide_eq_true_eq,beq_iff_eq];constructor
  (·intro e;(have:i=k:=by omega);subst this;rw[List.getElem?_eq_getElem hk]at hc;injection hc with hc;rw[← he, ← hc]);intro e;rw[e,ri (zV hr) hk _ hk]at hi;injection hi with hi;omega
theorem yH (a:ki) (s:cL) (w:World) (hI:ei w Any a s) (hZ:gh s):Calls prog 44 #[.agg (dU a s).toArray] w (GD (jg s) w):=by
 have vn:=aa (show jg s=(yz s).map fun l=>l.map (wR s.cells)from rfl);generalize jg s=res at vn;generalize hP:GD res w=P;have HP:=aa (show ∀ e w',GD res w e w'→P e w' from fun e w' h=>hP▸h);clear hP;have HXE:=aa (fun W (h:Below w.heap.size w W)=>GA a s W (hI.bZ h) hZ);have Q5:=aa (fun W (h:Below w.heap.size w W)=>(hI.bZ h).cells);have HXF:=aa (fun l (h:yz s=some l)=>EU hZ h);clear hI hZ;obtain⟨A1,q1,A2,q2,A3,q3,A4,q4,A5,q5,A6,q6,A7,q7,A8,q8⟩:=a;simp only[dU]at HXE Q5 ⊢;have zO:=aa (show cN (w.alloc (.cells #[.string s.name,.slice A1 s.imports.length q1,.slice A2 s.inputs.length q2,.slice A3 s.tables.length q3,.slice A4 s.funcs.length q4,.slice A5 s.cells.length q5,.slice A6 s.dZ.length q6,.slice A7 s.stores.length q7,.slice A8 s.cI.length q8] 31)) w.heap.size 31 [.string s.name,.slice A1 s.imports.length q1,.slice A2 s.inputs.length q2,.slice A3 s.tables.length q3,.slice A4 s.funcs.length q4,.slice A5 s.cells.length q5,.slice A6 s.dZ.length q6,.slice A7 s.stores.length q7,.slice A8 s.cI.length q8]from heap_alloc_new w _);have gY:=aa (show Below w.heap.size w (w.alloc (.cells #[.string s.name,.slice A1 s.imports.length q1,.slice A2 s.inputs.length q2,.slice A3 s.tables.length q3,.slice A4 s.funcs.length q4,.slice A5 s.cells.length q5,.slice A6 s.dZ.length q6,.slice A7 s.stores.length q7,.slice A8 s.cI.length q8] 31))from(aaf _ _).alloc aac _);go_enter func44,ntmps44;go_upto_region 1 with fail;generalize (w.alloc (.cells #[.string s.name,.slice A1 s.imports.length q1,.slice A2 s.inputs.length q2,.slice A3 s.tables.length q3,.slice A4 s.funcs.length q4,.slice A5 s.cells.length q5,.slice A6 s.dZ.length q6,.slice A7 s.stores.length q7,.slice A8 s.cI.length q8] 31))=w1 at zO gY ⊢;have hz1:=gY.o.size;have hp1:=zO.o.lt;have x1:=zO.o.cell;have HX1:=aa (HXE.o w1 gY.o);clear HXE;go_wp2_with fail;refine HX1.o.mono ?_;rintro e w2 ⟨hh,hb2⟩;clear HX1 x1;have dI:=aa (gY.o.trans (hb2.mono hz1));have wm:=aa (zO.o.bZ hb2 zO.o.lt);clear gY zO hb2;rcases hh with⟨hn,rfl⟩|⟨l,A,c,hsome,rfl,qU⟩
 (·have HN:=aa (show res=none by rw[vn.o,hn];rfl);clear vn HXF hn;go_wp2_with fail;exact HP.o _ _ ⟨.inl ⟨HN.o,rfl⟩,dI.o⟩);obtain⟨hr,FR,hlx⟩:=HXF.o l hsome;have D9:=aa (show res=some (l.map (wR s.cells)) by rw[vn.o,hsome];rfl);have rP:=aa (fun x=>W_ hr x);have hnc:s.cells.length≤100:=by
  have:=(iE hr).len;(have:s.cells.length≤(uses s).length:=by simp[uses,iC,gP];omega);omega
 have HLx:=aa hlx;have HZC:=aa (show ∀ c∈s.cells,Ms c.name from fun c hc=>jI ((iE hr).cells c hc).1);have lz:=aa (qU.mono (S':=fun b=>b<w2.heap.size) fun b hb q=>hb);obtain⟨n,hn⟩:∃ n,n=s.cells.length:=⟨_,rfl⟩;have C7:=aa hn;have C9:=aa (show l.length=n by omega);rw[← hn]at hnc wm rP;have hls:l.length=n:=C9.o;clear vn HXF hsome qU hr hlx FR hn;have hmm:=@run_makeMap prog;go_upto_region 4 with fail;clear hls;go_upto_region 5 with fail;have eE:=aa (dI.o.alloc dI.o.size (.map #[] 0));have Bc:=aa (wm.o.alloc (.map #[] 0));have E5:=aa (show fM (w2.alloc (.map #[] 0)) w2.heap.size 0 (Oc (kI s.cells 0))from fM.made w2);have Xa:=aa (lz.o.alloc (.map #[] 0));have hg3:=E5.o.lt;have hp2:=wm.o.lt;generalize (w2.alloc (.map #[] 0))=w3 at eE Bc E5 Xa hg3 ⊢;clear dI wm lz;generalize w2.heap.size=gi at E5 hg3 hp2 Xa ⊢;have x3:=Bc.o.cell;have hz3:=eE.o.size;go_wp2_with fail;go_loopw [25] (fun v wr=>∃ k:Nat,k≤n∧v= .int .i64 (k:Int)∧Hid (fM wr gi k (Oc (kI s.cells k)))∧Hid (cB (fun b=>b≠gi) w3 wr)∧Hid (Below gi w3 wr)) (fun v _=>n - (intOf v).toNat);(case atStart=>exact⟨0,aaG _,rfl,E5,aa (cB.refl _ _),aa (aaf _ _)⟩);clear E5 x3;obtain⟨k,hk,rfl,HM,KH,uF⟩:=hrel;by_cases hlt:k<n
 ·(have hkc:k<s.cells.length:=by have:=C7.o;omega);have cG:=aa (eE.o.trans (uF.o.mono (Nat.le_of_lt hp2)));obtain⟨b,o,cs,nS,_,hbl,⟨es,hcs,he⟩,cT⟩:=(Q5.o wr cG.o).get hkc;subst nS;have W7:kI s.cells (k+1)=fun nm=>if nm=s.cells[k].name then some k else kI s.cells k nm:=by
   funext nm;show(match s.cells[k]? with|some c=>if nm=c.name then some k else kI s.cells k nm|none=>kI s.cells k nm)=_;rw[List.getElem?_eq_getElem hkc]
  have hms:=HZC.o _ (aan hkc);generalize s.cells[k]=y at hcs he W7 hms;subst hcs;obtain⟨op,nn,un,nm,Ae,ce,ar,_,hes,_⟩:=he.parts;subst hes;have nU:∀ i v,([.string y.name,.string y.unit,.int .i64 op,.int .i64 nn,.string un,.string nm,.slice Ae ar.length ce]:List Value)[i]? =some v→wr.cell? ⟨b,o+k*7+i,none⟩=some v:=cT;have y0:wr.cell? ⟨b,o+k*7,none⟩=some (.string y.name):=nU 0 _ rfl;have y1:wr.cell? ⟨b,o+k*7+1,none⟩=some (.string y.unit):=nU 1 _ rfl;have y2:wr.cell? ⟨b,o+k*7+2,none⟩=some (.int .i64 op):=nU 2 _ rfl;have y3:wr.cell? ⟨b,o+k*7+3,none⟩=some (.int .i64 nn):=nU 3 _ rfl;have y4:wr.cell? ⟨b,o+k*7+4,none⟩=some (.string un):=nU 4 _ rfl;have y5:wr.cell? ⟨b,o+k*7+5,none⟩=some (.string nm):=nU 5 _ rfl;have y6:wr.cell? ⟨b,o+k*7+6,none⟩=some (.slice Ae ar.length ce):=nU 6 _ rfl;have hnm:y.name.size≤maxLen:=hms;have FK:=HM.o.lt;clear cT nU he hms;go_upto_region 8 with fail;have eo:=aa ((aaf wr.heap.size wr).alloc aac (.cells #[.string y.name,.string y.unit,.int .i64 op,.int .i64 nn,.string un,.string nm,.slice Ae ar.length ce] 49));have Q6:=aa (show cN (wr.alloc (.cells #[.string y.name,.string y.unit,.int .i64 op,.int .i64 nn,.string un,.string nm,.slice Ae ar.length ce] 49)) wr.heap.size 49 [.string y.name,.string y.unit,.int .i64 op,.int .i64 nn,.string un,.string nm,.slice Ae ar.length ce]from heap_alloc_new wr _);generalize (wr.alloc (.cells #[.string y.name,.string y.unit,.int .i64 op,.int .i64 nn,.string un,.string nm,.slice Ae ar.length ce] 49))=w6 at eo Q6 ⊢;clear y0 y1 y2 y3 y4 y5 y6;have z6:=Q6.o.cell;have Hs:=aa (HM.o.bZ eo.o FK);go_upto_region 9 with(at_mapUpdate;refine rF _ rfl _ _ _ _ rfl 3 underlying96 gi k (Oc (kI s.cells k)) rfl Hs.o aH y.name (.int .i64 (k:Int)) rfl rfl hnm ?_;intro w7 hm7 uu);have S_:(fun k'=>if k'=y.name then some (Value.int .i64 (k:Int))else Oc (kI s.cells k) k')=Oc (kI s.cells (k+1)):=by
   funext nm';unfold Oc;rw[W7];by_cases h:nm'=y.name
   (·rw[if_pos h];simp[h]);rw[if_neg h];simp[h]
  rw[S_]at hm7;have HM7:=aa hm7;have HKp7:=aa ((KH.o.trans (cB.cA eo.o)).trans (cB.fB uu fun b hb e=>hb bJ));have HBl7:=aa ((uF.o.trans (eo.o.mono (Nat.le_of_lt FK))).trans (⟨uu.os,uu.tape,uu.output,uu.size,fun b hb=>uu.block b (by have:=Hs.o.lt;omega) (fun e=>by injection e with e;omega)⟩:Below gi w6 w7));clear S_ W7 hm7 uu z6 HM KH uF Hs eo Q6;go_wp2_with fail;go_roundw;(case rel=>exact⟨k+1,by omega,rfl,HM7,HKp7,HBl7⟩);(case measure=>simp[intOf];omega)
 (obtain rfl:k=n:=by omega);have HKs:=aa (show cN wr w.heap.size 31 _ from(KH.o.2 _ Bc.o.lt af).trans Bc.o);have HSq4:=aa (Xa.o.keep ⟨KH.o.1,fun b hb q=>KH.o.2 b hb af⟩);have gz:=aa (eE.o.trans (uF.o.mono (Nat.le_of_lt hp2)));have hgi4:=HM.o.lt;(have W7:∀ nm i,kI s.cells k nm=some i→i<1000000:=fun nm i h=>by have:=(wU _ h).1;omega);have ZW:=aa W7;clear KH uF eE Bc Xa hg3 hz3 W7 hlt HZC Q5;have hmk:∀ W:World,(Instr.makeSlice 103 (.int .i64 (k:Int)) (.int .i64 (k:Int))).run prog W= .ok (.slice (some ⟨W.heap.size,0,none⟩) k k) (W.alloc (.cells ((aaw k (Value.slice none 0 0)).toArray) 38)):=fun W=>by
  have:=run_make_row' (P:=prog) 103 38 (.slice none 0 0) 24 underlying103 JL rfl .i64 .i64 k af af W;rw[show madeCells #[.slice none 0 0] k=(aaw k (Value.slice none 0 0)).toArray from by rw[← toList_madeCells_one]]at this;exact this
 go_upto_region 11 with fail;have Vo:=aa (show cN (wr.alloc (.cells (aad k (Value.slice none 0 0)) 38)) wr.heap.size 38 (aaw k (Value.slice none 0 0))from(heap_alloc_new wr _).trans ai);have dO:=aa (gz.o.alloc gz.o.size (.cells (aad k (Value.slice none 0 0)) 38));have JK:=aa (HM.o.alloc (.cells (aad k (Value.slice none 0 0)) 38));have HSq5:=aa (HSq4.o.alloc (.cells (aad k (Value.slice none 0 0)) 38));have KC:=aa (HKs.o.alloc (.cells (aad k (Value.slice none 0 0)) 38));have hpk:=HKs.o.lt;have hgo5:=Vo.o.lt;generalize (wr.alloc (.cells (aad k (Value.slice none 0 0)) 38))=w5 at Vo dO JK HSq5 KC hgo5 ⊢;clear HM HKs HSq4 gz hmk hmm hp1 hz1;generalize wr.heap.size=go at Vo hpk hgi4 hgo5 ⊢;obtain⟨G,hG⟩:∃ G,G=l.map (wR s.cells):=⟨_,rfl⟩;rw[← hG]at D9;have HG:=aa hG;clear hG;go_wp2_with fail;go_loopw [40] (fun v wr=>∃ (i:Nat) (vs:List Value),i≤k∧v= .int .i64 (i:Int)∧Hid (vs.length=i)∧Hid (cN wr go 38 (vs++aaw (k - i) (.slice none 0 0)))∧Hid (kC w.heap.size go wr.heap.size wr vs G)∧Hid (Below go w5 wr)) (fun v _=>k - (intOf v).toNat);(case atStart=>exact⟨0,[],aaG _,rfl,aa rfl,aa (by simpa using Vo.o),aa kC.qK,aa (aaf _ _)⟩);clear Vo;obtain⟨i,vs,hi,rfl,HVL,HGo,HRo,uF⟩:=hrel;by_cases hlt:i<k
 ·(have hil:i<l.length:=by have:=C9.o;omega);obtain⟨b,o,cs,hA,xM,hbl,ey,cT⟩:=(HSq5.o.keep (cB.tM uF.o fun b hb=>by omega)).get hil;subst hA;have hmem:=aan hil;have hlx:=HLx.o _ hmem;(have hGi:G.getD i []=wR s.cells l[i]:=by rw[HG.o,aam,List.getElem?_map,List.getElem?_eq_getElem hil];rfl);obtain⟨eU,yn,eV,eW,Ax,cx,yr,qX,hes,hxs⟩:=cH.parts ey;generalize l[i]=x at ey hlx hGi qX;subst hes;have hgow:=HGo.o.lt;have g0:wr.cell? ⟨b,o+i*5,none⟩=some (.int .i64 eU):=cT 0 _ rfl;have g1:wr.cell? ⟨b,o+i*5+1,none⟩=some (.int .i64 yn):=cT 1 _ rfl;have g2:wr.cell? ⟨b,o+i*5+2,none⟩=some (.string eV):=cT 2 _ rfl;have g3:wr.cell? ⟨b,o+i*5+3,none⟩=some (.string eW):=cT 3 _ rfl;have g4:wr.cell? ⟨b,o+i*5+4,none⟩=some (.slice Ax yr.length cx):=cT 4 _ rfl;have HIS:=aa ey;have hmm:=@run_makeMap prog;clear cT ey qX hmem hxs;go_upto_region 15 with fail;have a1:(wr.alloc (.cells #[.int .i64 eU,.int .i64 yn,.string eV,.string eW,.slice Ax yr.length cx] 47)).heap.size=wr.heap.size+1:=aaI _ _;have eM:Below wr.heap.size wr ((wr.alloc (.cells #[.int .i64 eU,.int .i64 yn,.string eV,.string eW,.slice Ax yr.length cx] 47)).alloc (.map #[] 0)):=((aaf _ _).alloc aac _).alloc aT _;have hk6:cN ((wr.alloc (.cells #[.int .i64 eU,.int .i64 yn,.string eV,.string eW,.slice Ax yr.length cx] 47)).alloc (.map #[] 0)) wr.heap.size 47 [.int .i64 eU,.int .i64 yn,.string eV,.string eW,.slice Ax yr.length cx]:=cN.alloc (heap_alloc_new wr _) _;have hm6:=jc.made (wr.alloc (.cells #[.int .i64 eU,.int .i64 yn,.string eV,.string eW,.slice Ax yr.length cx] 47));rw[a1]at hm6;have Hs:=aa (show jc ((wr.alloc (.cells #[.int .i64 eU,.int .i64 yn,.string eV,.string eW,.slice Ax yr.length cx] 47)).alloc (.map #[] 0)) (wr.heap.size+1) 0 (yE fun _=>false)from hm6);have eo:=aa eM;have Q6:=aa hk6;generalize ((wr.alloc (.cells #[.int .i64 eU,.int .i64 yn,.string eV,.string eW,.slice Ax yr.length cx] 47)).alloc (.map #[] 0))=w6 at Hs eo Q6 ⊢;clear g0 g1 g2 g3 g4 a1 eM hk6 hm6 hmm;have z6:=Q6.o.cell;have hgs6:=Hs.o.lt;have hs6:=eo.o.size;have hs5:=uF.o.size;have HC:=aa (PT gi k (wr.heap.size+1) (kI s.cells k) ZW.o af 200 ak x hlx.2 hlx.1 0 (fun _=>false) w6 _ (by have:=hlx.2;omega) ((JK.o.bZ uF.o hgi4).bZ eo.o af) Hs.o (dh.mono (dh.keep HIS.o (cB.cA eo.o)) fun b hb q=>by omega));go_wp2_with fail;refine HC.o.mono ?_;rintro e w8 ⟨rfl,m8,hm8,hmm8,hk8,oU⟩;obtain⟨S8,hS8⟩:∃ S8:Int→Bool,S8=fun j=>false||yG (kI s.cells k) x j:=⟨_,rfl⟩;rw[← hS8]at hmm8;have Xb:=aa (show(aav k).filter (fun j:Nat=>S8 (j:Int))=G.getD i [] by rw[hGi,hS8,C7.o];rw[C7.o]at rP;exact rP.o x);have Q7:=aa hmm8;have hs8:=oU.size;have HGo8:=aa (show cN w8 go 38 (vs++aaw (k - i) (.slice none 0 0))from(hk8.2 go af af).trans ((HGo.o.bZ eo.o hgow)));have HRo8:=aa (show kC w.heap.size go wr.heap.size w8 vs G from(HRo.o.keep (cB.cA eo.o)).keep ⟨hk8.1,fun b hb q=>hk8.2 b hb af⟩);have HBl8:=aa (show Below go w5 w8 from(uF.o.trans (eo.o.mono af)).trans (oU.mono af));have Q4:=aa (show cN w8 w.heap.size 31 _ from HBl8.o.block w.heap.size af |>.trans KC.o);have hgs8:=Q7.o.lt;have hgow8:=HGo8.o.lt;clear hm8 hk8 oU hs6 hs5 z6 HC Hs eo Q6 HIS hS8 hGi HGo HRo uF hmm8 hlx hgs6;generalize hpb:wr.heap.size=pb at hgow hgs8 hs8 hbl Q7 HRo8 ⊢;clear hpb hbl wr;have x8:=Q4.o.cell;obtain⟨K,hK⟩:∃ K,K=w8.heap.size:=⟨_,rfl⟩;have HKe:=aa hK;rw[← hK]at hgs8 hgow8;clear hK;go_wp2_with fail;go_loopw [53] (fun v wr=>∃ (q:Nat) (v0:Value),q≤k∧v= .int .i64 (q:Int)∧Hid (cN wr go 38 (vs++v0 :: aaw (k - (i+1)) (.slice none 0 0)))∧Hid (dM jx 3 K wr (fun _=>False) v0 ((aav q).filter fun j:Nat=>S8 (j:Int)))∧Hid (cB (fun b=>b≠go∧b<K) w8 wr)∧Hid (Below go w8 wr)) (fun v _=>k - (intOf v).toNat);(case atStart=>exact⟨0,.slice none 0 0,aaG _,rfl,by have:=HGo8.o;rw[show k - i=(k - (i+1))+1 by omega,List.replicate_succ]at this;exact aa this,aa dM.qK,aa (cB.refl _ _),aa (aaf _ _)⟩);clear HGo8 x8;obtain⟨q,v0,hq,rfl,HGq,Xc,Yn,TL⟩:=hrel;have hs8K:K≤w8.heap.size:=Nat.le_of_eq HKe.o;have hs8L:w8.heap.size≤K:=Nat.le_of_eq HKe.o.symm;have qU:=Yn.o.1;by_cases hqk:q<k
  ·have hwf:(Lit.int .i64 (q:Int)).wf=true:=by
    have h1:IntKind.min .i64=-9223372036854775808:=ak;have h2:IntKind.max .i64=9223372036854775807:=ak;simp[Lit.wf,h1,h2];omega
   have Yo:=Q7.o.keep (Yn.o.2 (pb+1) af ⟨by omega,by omega⟩);have hlk:=Yo.TK (q:Int) hwf;have hfil:(aav (q+1)).filter (fun j:Nat=>S8 (j:Int))=(aav q).filter (fun j:Nat=>S8 (j:Int))++if S8 (q:Int)then[q]else[]:=by
    rw[List.range_succ,List.filter_append];congr 1;simp[List.filter_cons]
   have hfl:((aav q).filter (fun j:Nat=>S8 (j:Int))).length≤q:=by
    have:=List.length_filter_le (fun j:Nat=>S8 (j:Int)) (aav q)
    rwa [List.length_range]at this
   have TM:=aa hfil;clear hfil;generalize hrow:(aav q).filter (fun j:Nat=>S8 (j:Int))=row at hfl Xc TM;clear hrow;have hgoq:=HGq.o.lt;cases NK:S8 (q:Int)with
   |false=>
    have HO9:=aa (show dM jx 3 K wr (fun _=>False) v0 ((aav (q+1)).filter fun j:Nat=>S8 (j:Int)) by rw[TM.o,NK];simpa using Xc.o);rw[NK]at hlk;clear hfl Yo hwf Xc TM;go_wp2_with fail;go_roundw;(case rel=>exact⟨q+1,v0,by omega,rfl,HGq,HO9,Yn,TL⟩);(case measure=>simp[intOf];omega)
   |true=>
    rw[NK]at hlk;have hR2:=aa (show(aav (q+1)).filter (fun j:Nat=>S8 (j:Int))=row++[q] by rw[TM.o,NK];rfl);obtain⟨Aq,cq,hvq,_,_⟩:=Xc.o.slice;subst hvq;have hci:wr.cell? ⟨go,i,none⟩=some (.slice Aq row.length cq):=by
     rw[HGq.o.cell,List.getElem?_append_right (by rw[HVL.o];exact aaB _),HVL.o,Nat.sub_self];rfl
    have hOb:=aa (fun(o:Obj)=>Xc.o.bZ ((aaf wr.heap.size wr).alloc aac o));have hown:=aa (fun b (e:(Value.slice Aq row.length cq).ownBlock=some b)=>Xc.o.lt b e);clear TM Yo hwf;go_wp2_with (at_builtin;refine dD (R:=jx) (S:=fun _=>False) (xs:=row) (ys:=[q]) (T:=3) (t:=38) (B:=K) rfl (.tmp 64) (.tmp 66) 38 rfl rfl TJ (hOb.o _) rfl _ 1 1 rfl rfl ?hN ?hl ?hB rfl (n:=row.length+1) rfl ?_);(case hN=>exact rU.jH (R:=jx) (cs:=[.int .i64 (q:Int)]) (x:=q) rfl _ rfl);(case hl=>omega);(case hB=>rw[aaI];omega);intro A9 c9 w9 DX HG;have s9:=HG.o.turn.size;rw[aaI]at s9;have kb:∀ b,b<wr.heap.size→(Value.slice Aq row.length cq).ownBlock≠some b→w9.heap[b]? =wr.heap[b]? :=fun b hb e=>(HG.o.turn.block b aJ (fun q=>e q.symm)).trans (heap_alloc_old wr _ hb);(have PU:(Value.slice Aq row.length cq).ownBlock≠some go:=fun e=>by have:=(hown.o go e).1;omega);have hG9:cN w9 go 38 (vs++ .slice Aq row.length cq :: aaw (k - (i+1)) (.slice none 0 0)):=(kb go hgoq PU).trans HGq.o;have f9:=hG9.frozen i;have z9:w9.cell? ⟨go,i,none⟩=some (.slice Aq row.length cq):=(World.cell?_of_block (a:=⟨go,i,none⟩) (kb go hgoq PU)).trans hci;have mZ:(vs++Value.slice Aq row.length cq :: aaw (k - (i+1)) (.slice none 0 0)).set i (.slice A9 (row.length+1) c9)=vs++Value.slice A9 (row.length+1) c9 :: aaw (k - (i+1)) (.slice none 0 0):=by
     rw[List.set_append_right _ _ (by rw[HVL.o];exact aaB _),HVL.o,Nat.sub_self,List.set_cons_zero]
    have HG10:=aa (show cN (w9.setCell ⟨go,i,none⟩ (.slice A9 (row.length+1) c9)) go 38 (vs++ .slice A9 (row.length+1) c9 :: aaw (k - (i+1)) (.slice none 0 0))from mZ▸hG9.ez i _);have kf:∀ b,b≠go→(w9.setCell ⟨go,i,none⟩ (.slice A9 (row.length+1) c9)).heap[b]? =w9.heap[b]? :=fun b hb=>aae w9 ⟨go,i,none⟩ _ b hb;have Od:(w9.setCell ⟨go,i,none⟩ (.slice A9 (row.length+1) c9)).heap.size=w9.heap.size:=bF;have HO10:=aa (show dM jx 3 K (w9.setCell ⟨go,i,none⟩ (.slice A9 (row.length+1) c9)) (fun _=>False) (.slice A9 (row.length+1) c9) ((aav (q+1)).filter fun j:Nat=>S8 (j:Int))from by
     rw[hR2.o];exact HG.o.own.Ta (by rw[Od];exact aaB _) (fun b q=>kf b (fun e=>by have:=(HG.o.own.lt b q).1;omega)) (fun b _ q=>q.elim))
    have HK10:=aa (show cB (fun b=>b≠go∧b<K) w8 (w9.setCell ⟨go,i,none⟩ (.slice A9 (row.length+1) c9))from Yn.o.trans ⟨by rw[Od];omega,fun b hb h=>(kf b h.1).trans (kb b hb (fun e=>by have:=(hown.o b e).1;omega))⟩);have PV:=aa (show Below go w8 (w9.setCell ⟨go,i,none⟩ (.slice A9 (row.length+1) c9))from TL.o.trans ⟨HG.o.turn.os,HG.o.turn.tape,HG.o.turn.output,by rw[Od];omega,fun b hb=>(kf b af).trans (kb b af (fun e=>by have:=(hown.o b e).1;omega))⟩);clear mZ hG9 kb kf Od HG hOb hown PU Xc HGq Yn TL;go_wp2_with fail;go_roundw;(case rel=>exact⟨q+1,_,by omega,rfl,HG10,HO10,HK10,PV⟩);(case measure=>simp[intOf];omega)
  (obtain rfl:q=k:=by omega);have hO:=Xc.o;rw[Xb.o]at hO;have HE:=aa (HRo8.o.keep ⟨Yn.o.1,fun b hb h=>Yn.o.2 b af ⟨h.2,by omega⟩⟩ |>.more hO (fun b h=>h) (by rw[HVL.o]) ⟨by omega,by omega,by omega⟩);have HG9:=aa (show cN wr go 38 ((vs++[v0])++aaw (q - (i+1)) (.slice none 0 0)) by rw[List.append_assoc];exact HGq.o);have HV9:=aa (show(vs++[v0]).length=i+1 by rw[aao,HVL.o];rfl);have jt:=aa (HBl8.o.trans TL.o);clear Xc HGq Yn TL hO;go_wp2_with fail;go_roundw;(case rel=>exact⟨i+1,vs++[v0],by omega,rfl,HV9,HG9,HE,jt⟩);(case measure=>simp[intOf];omega)
 (obtain rfl:i=k:=by omega);have HE:=aa (show GD res w (.returned (.tuple #[.slice (some ⟨go,0,none⟩) i i,.bool true])) wr from by
  (have hbl:cN wr go 38 vs:=by have:=HGo.o;rwa [Nat.sub_self,List.replicate_zero,List.append_nil]at this);have hGl:G.length=i:=(by rw[HG.o,aap];exact C9.o);exact⟨.inr ⟨G,_,i,D9.o,by rw[hGl],HRo.o.sq hbl (by rw[HVL.o,hGl]) af⟩,dO.o.trans (uF.o.mono af)⟩)
 clear HGo HRo uF;go_wp2_with fail;exact HP.o _ _ HE.o
end
end
section
open Go Go.RowKit Bg Go.Proofs Sh Kb Go.Maps Hp
section
abbrev sZ (l:List Nat):List Int:=l.map fun n:Nat=>(n:Int)
theorem kr {w w':World} {B T k n:Nat} {v:Value} {xs:List Value} (h:w.ownsRow B T k v n xs) (hk:∀ g,v.ownBlock=some g→w'.heap[g]? =w.heap[g]?):w'.ownsRow B T k v n xs:=by
 refine⟨h.1,?_⟩;rcases h.2 with q|⟨g,cap,cur,rfl,hB,hb,rest⟩
 (·exact .inl q);exact .inr ⟨g,cap,cur,rfl,hB,(hk g rfl).trans hb,rest⟩
structure C_ (B gu:Nat) (V:Nat→Prop) (n:Nat) (us:Nat→List Nat) (vs:List Value) (w:World):Prop where
 blk:cN w gu 38 vs
 len:vs.length=n
 row:∀ (k:Nat) (v:Value),vs[k]? =some v→w.ownsRow B 3 1 v (us k).length (ints (sZ (us k)))
 Xd:∀ (k:Nat) (v:Value) (g:Nat),vs[k]? =some v→v.ownBlock=some g→V g
 sep:∀ (j k:Nat) (v v':Value) (g:Nat),vs[j]? =some v→vs[k]? =some v'→v.ownBlock=some g→v'.ownBlock=some g→j=k
 o:¬V gu
section
variable {B gu n:Nat} {V V':Nat→Prop} {us:Nat→List Nat} {vs:List Value} {w w':World}
theorem C_.keep (h:C_ B gu V n us vs w) (hk:∀ b,b<w.heap.size→b=gu∨V b→w'.heap[b]? =w.heap[b]?):C_ B gu V n us vs w':=
 ⟨(hk gu h.blk.lt (.inl rfl)).trans h.blk,h.len,fun k v hv=>kr (h.row k v hv) fun g hg=>hk g ((h.row k v hv).lt g hg).2 (.inr (h.Xd k v g hv hg)),h.Xd,h.sep,h.o⟩
theorem C_.mono (h:C_ B gu V n us vs w) (hs:∀ b,b<w.heap.size→V b→V' b) (ho:¬V' gu):C_ B gu V' n us vs w:=
 ⟨h.blk,h.len,h.row,fun k v g hv hg=>hs g ((h.row k v hv).lt g hg).2 (h.Xd k v g hv hg),h.sep,ho⟩
theorem C_.push {w2:World} {k i c c':Nat} {A A':Option Addr} (h:C_ B gu V n us vs w) (hv:vs[k]? =some (bW A (us k).length c)) (hs:∀ b,b<w.heap.size→w'.heap[b]? =w.heap[b]?) (hz:w.heap.size≤w') (h1:w2.ownsRow B 3 1 (bW A' ((us k).length+1) c') ((us k).length+1) (ints (sZ (us k)++[(i:Int)]))) (h2:w'.grownBy w2 (bW A (us k).length c).ownBlock) (h3:(bW A' ((us k).length+1) c').ownBlock=(bW A (us k).length c).ownBlock∨(bW A' ((us k).length+1) c').ownBlock=some w'.heap.size):C_ B gu (fun b=>V b∨w.heap.size≤b) n (fun j=>if j=k then us k++[i]else us j) (vs.set k (bW A' ((us k).length+1) c')) (w2.setCell (bY gu k) (bW A' ((us k).length+1) c'))∧∀ b,b<w.heap.size→b≠gu→¬V b→(w2.setCell (bY gu k) (bW A' ((us k).length+1) c')).heap[b]? =w.heap[b]? :=by
 have V6:=h.blk.lt;have hkn:k<vs.length:=(List.getElem?_eq_some_iff.1 hv).1;have hkv:∀ b,b<w.heap.size→(bW A (us k).length c).ownBlock≠some b→w2.heap[b]? =w.heap[b]? :=fun b hb e=>(h2.block b af (fun q=>e q.symm)).trans (hs b hb);have hf:∀ b,b≠gu→(w2.setCell (bY gu k) (bW A' ((us k).length+1) c')).heap[b]? =w2.heap[b]? :=fun b hb=>aae w2 (bY gu k) _ b hb;have hgo:(bW A (us k).length c).ownBlock≠some gu:=fun e=>h.o (h.Xd k _ gu hv e);have hnew:∀ g,(bW A' ((us k).length+1) c').ownBlock=some g→(bW A (us k).length c).ownBlock=some g∨g=w'.heap.size:=fun g hg=>by
  rcases h3 with e|e
  (·exact .inl (e▸hg));rw[e]at hg;injection hg with hg;exact .inr hg.symm
 have hV:∀ g,(bW A' ((us k).length+1) c').ownBlock=some g→V g∨w.heap.size≤g:=fun g hg=>(hnew g hg).elim (fun e=> .inl (h.Xd k _ g hv e)) fun e=> .inr af;refine⟨⟨?_,by rw[List.length_set];exact h.len,fun j v hj=>?_,fun j v g hj hg=>?_,fun a b v v' g ha hb hga hgb=>?_,fun q=>q.elim h.o af⟩,fun b hb hb2 hb3=>(hf b hb2).trans (hkv b hb fun e=>hb3 (h.Xd k _ b hv e))⟩
 (·have hb2:cN w2 gu 38 vs:=(hkv gu V6 hgo).trans h.blk;exact hb2.ez k _)
 ·by_cases e:k=j
  ·subst e;rw[List.getElem?_set_self hkn]at hj;injection hj with hj;subst hj;have hl:(us k++[i]).length=(us k).length+1:=ai;simp only[if_true];rw[hl,show sZ (us k++[i])=sZ (us k)++[(i:Int)] by simp];exact kr h1 fun g hg=>hf g fun e=>by
    subst e;exact(hV _ hg).elim h.o af
  rw[List.getElem?_set_ne e]at hj;simp only[if_neg (fun q:j=k=>e q.symm)];have hr:=h.row j v hj;exact kr hr fun g hg=>(hf g fun q=>h.o (q▸h.Xd j v g hj hg)).trans (hkv g (hr.lt g hg).2 fun q=>e (h.sep k j _ v g hv hj q hg))
 ·by_cases e:k=j
  (·subst e;rw[List.getElem?_set_self hkn]at hj;injection hj with hj;subst hj;exact hV g hg);rw[List.getElem?_set_ne e]at hj;exact .inl (h.Xd j v g hj hg)
 have key:∀ j v,j≠k→(vs.set k (bW A' ((us k).length+1) c'))[j]? =some v→v.ownBlock=some g→(bW A' ((us k).length+1) c').ownBlock=some g→False:=fun j v hjk hj hgj hgk=>by
  rw[List.getElem?_set_ne (fun q=>hjk q.symm)]at hj;rcases hnew g hgk with e|e
  (·exact hjk (h.sep j k v _ g hj hv hgj e));have:=((h.row j v hj).lt g hgj).2;omega
 by_cases ea:a=k
 ·by_cases eb:b=k
  (·rw[ea,eb]);rw[ea,List.getElem?_set_self hkn]at ha;injection ha with ha;subst ha;exact(key b v' eb hb hgb hga).elim
 by_cases eb:b=k
 (·rw[eb,List.getElem?_set_self hkn]at hb;injection hb with hb;subst hb;exact(key a v ea ha hga hgb).elim);rw[List.getElem?_set_ne (fun q=>ea q.symm)]at ha;rw[List.getElem?_set_ne (fun q=>eb q.symm)]at hb;exact h.sep a b v v' g ha hb hga hgb
end
structure D_ (B p gl gu:Nat) (v:Value) (outs:List Nat) (L:List Int) (n:Nat) (us:Nat→List Nat) (q:List Nat) (U V:Nat→Prop) (A:Option Addr) (m c:Nat) (pV:List Int) (vs:List Value) (w:World):Prop where
 heap:jP p B U A m c pV w
 law:Hn pV m
 perm:pV.Perm (sZ q)
 use:C_ B gu V n us vs w
 left:cN w gl 3 (ints L)
 o:w.ownsRow B 3 1 v outs.length (ints (sZ outs))
 uv:∀ b,U b→¬V b
 gl3:¬U gl∧¬V gl∧gl≠gu∧gl≠p
 gu2:¬U gu∧gu≠p
 vp:¬V p
 vo:∀ b,v.ownBlock=some b→¬U b∧¬V b∧b≠gl∧b≠gu∧b≠p
 lo:B≤gl∧B≤gu
def PW (B p gl gu:Nat) (v:Value) (outs:List Nat) (L:List Int) (n:Nat) (us:Nat→List Nat) (q:List Nat) (w:World):Prop:=∃ U V A m c pV vs,D_ B p gl gu v outs L n us q U V A m c pV vs w
section
variable {B p gl gu:Nat} {v:Value} {outs:List Nat} {L:List Int} {n:Nat} {us:Nat→List Nat} {q:List Nat} {U V:Nat→Prop} {A:Option Addr} {m c:Nat} {pV:List Int} {vs:List Value} {w w':World}
theorem D_.bZ (h:D_ B p gl gu v outs L n us q U V A m c pV vs w) (hb:∀ b,b<w.heap.size→w'.heap[b]? =w.heap[b]?) (hz:w.heap.size≤w'):D_ B p gl gu v outs L n us q U V A m c pV vs w':=
 {h with heap:=h.heap.keep ⟨hz,fun b hb' _=>hb b hb'⟩,use:=h.use.keep fun b hb' _=>hb b hb',left:=(hb gl h.left.lt).trans h.left,o:=kr h.o fun g hg=>hb g (h.o.lt g hg).2}
theorem PW.bZ (h:PW B p gl gu v outs L n us q w) (hb:Below w w w'):PW B p gl gu v outs L n us q w':=by
 obtain⟨U,V,A,m,c,pV,vs,h⟩:=h;exact⟨U,V,A,m,c,pV,vs,h.bZ (fun b hb'=>hb.block b hb') hb.size⟩
theorem D_.setL (h:D_ B p gl gu v outs L n us q U V A m c pV vs w) (i:Nat) (z:Int):D_ B p gl gu v outs (L.set i z) n us q U V A m c pV vs (w.setCell (bY gl i) (bU z)):=by
 have hf:∀ b,b≠gl→(w.setCell (bY gl i) (bU z)).heap[b]? =w.heap[b]? :=fun b hb=>aae w (bY gl i) _ b hb;have hz:(w.setCell (bY gl i) (bU z)).heap.size=w.heap.size:=bF;obtain⟨a1,a2,a3,a4⟩:=h.gl3;refine {h with heap:=h.heap.keep ⟨by rw[hz];exact aaB _,fun b _ q=>hf b fun e=>?_⟩,use:=h.use.keep fun b _ q=>hf b fun e=>?_,left:=?_,o:=kr h.o fun g hg=>hf g (h.vo g hg).2.2.1}
 (·subst e;exact q.elim (fun e=>a4 e) a1)
 (·subst e;exact q.elim (fun e=>a3 e) a2);have:=h.left.ez i (bU z);rw[ints,List.map_set];exact this
theorem D_.turn (h:D_ B p gl gu v outs L n us q U V A m c pV vs w) {A':Option Addr} {m' c':Nat} {Xe:List Int} {q':List Nat} (hh:jP p B (fun b=>U b∨w.heap.size≤b) A' m' c' Xe w') (hl:Hn Xe m') (hp:Xe.Perm (sZ q')) (ht:zX p B U w w'):D_ B p gl gu v outs L n us q' (fun b=>U b∨w.heap.size≤b) (fun b=>V b∧b<w.heap.size) A' m' c' Xe vs w':=by
 obtain⟨a1,a2,a3,a4⟩:=h.gl3;obtain⟨b1,b2⟩:=h.gu2;have xI:=h.left.lt;have V6:=h.use.blk.lt;have hplt:=h.heap.sK;have hk:=ht.keeps;have hu:=(h.use.mono (V':=fun b=>V b∧b<w.heap.size) (fun b hb q=>⟨q,hb⟩) (fun q=>h.use.o q.1)).keep (w':=w') fun b hb q=>hk.2 b hb (by
  rcases q with e|e
  (·subst e;exact⟨b2,b1⟩);exact⟨fun e2=>h.vp (e2▸e.1),fun e2=>h.uv b e2 e.1⟩)
 exact⟨hh,hl,hp,hu,(hk.2 gl xI ⟨a4,a1⟩).trans h.left,kr h.o fun g hg=>hk.2 g (h.o.lt g hg).2 ⟨(h.vo g hg).2.2.2.2,(h.vo g hg).1⟩,
  fun b q r=>q.elim (fun q=>h.uv b q r.1) (fun q=>by omega),⟨fun q=>q.elim a1 af,fun q=>a2 q.1,a3,a4⟩,⟨fun q=>q.elim b1 af,b2⟩,fun q=>h.vp q.1,
  fun b hb=>by
   obtain⟨c1,c2,c3,c4,c5⟩:=h.vo b hb;have:=(h.o.lt b hb).2;exact⟨fun q=>q.elim c1 af,fun q=>c2 q.1,c3,c4,c5⟩,h.lo⟩
theorem D_.used (h:D_ B p gl gu v outs L n us q U V A m c pV vs w) {us':Nat→List Nat} {vs':List Value} (hu:C_ B gu (fun b=>V b∨w.heap.size≤b) n us' vs' w') (hz:w.heap.size≤w') (hk:∀ b,b<w.heap.size→b≠gu→¬V b→w'.heap[b]? =w.heap[b]?):D_ B p gl gu v outs L n us' q (fun b=>U b∧b<w.heap.size) (fun b=>V b∨w.heap.size≤b) A m c pV vs' w':=by
 obtain⟨a1,a2,a3,a4⟩:=h.gl3;obtain⟨b1,b2⟩:=h.gu2;have xI:=h.left.lt;have hplt:=h.heap.sK;have hh:=(h.heap.mono (U':=fun b=>U b∧b<w.heap.size) (fun b hb q=>⟨q,hb⟩) (fun q=>h.heap.o q.1)).keep (w':=w') ⟨hz,fun b hb q=>hk b hb (q.elim (fun e=>by subst e;exact fun e=>b2 e.symm) fun e e2=>b1 (e2▸e.1)) (q.elim (fun e=>by subst e;exact h.vp) fun e=>h.uv b e.1)⟩;exact⟨hh,h.law,h.perm,hu,(hk gl xI a3 a2).trans h.left,kr h.o fun g hg=>hk g (h.o.lt g hg).2 (h.vo g hg).2.2.2.1 (h.vo g hg).2.1,
  fun b q r=>r.elim (fun r=>h.uv b q.1 r) (fun r=>by have:=q.2;omega),⟨fun q=>a1 q.1,fun q=>q.elim a2 af,a3,a4⟩,⟨fun q=>b1 q.1,b2⟩,fun q=>q.elim h.vp af,
  fun b hb=>by
   obtain⟨c1,c2,c3,c4,c5⟩:=h.vo b hb;have:=(h.o.lt b hb).2;exact⟨fun q=>c1 q.1,fun q=>q.elim c2 af,c3,c4,c5⟩,h.lo⟩
theorem D_.came (h:D_ B p gl gu v outs L n us q U V A m c pV vs w) {v':Value} {i:Nat} {w2:World} (hs:∀ b,b<w.heap.size→w'.heap[b]? =w.heap[b]?) (hz:w.heap.size≤w') (h1:w2.ownsRow B 3 1 v' (outs.length+1) (ints (sZ outs++[(i:Int)]))) (h2:w'.grownBy w2 v.ownBlock) (h3:v'.ownBlock=v.ownBlock∨v'.ownBlock=some w'.heap.size):D_ B p gl gu v' (outs++[i]) L n us q (fun b=>U b∧b<w.heap.size) (fun b=>V b∧b<w.heap.size) A m c pV vs w2:=by
 obtain⟨a1,a2,a3,a4⟩:=h.gl3;obtain⟨b1,b2⟩:=h.gu2;have xI:=h.left.lt;have V6:=h.use.blk.lt;have hplt:=h.heap.sK;have hk:∀ b,b<w.heap.size→v.ownBlock≠some b→w2.heap[b]? =w.heap[b]? :=fun b hb e=>(h2.block b af (fun q=>e q.symm)).trans (hs b hb);have hz2:=h2.size;have hh:=(h.heap.mono (U':=fun b=>U b∧b<w.heap.size) (fun b hb q=>⟨q,hb⟩) (fun q=>h.heap.o q.1)).keep (w':=w2) ⟨by omega,fun b hb q=>hk b hb fun e=>by
  obtain⟨c1,c2,c3,c4,c5⟩:=h.vo b e;exact q.elim c5 fun q=>c1 q.1⟩
 have hu:=(h.use.mono (V':=fun b=>V b∧b<w.heap.size) (fun b hb q=>⟨q,hb⟩) (fun q=>h.use.o q.1)).keep (w':=w2) fun b hb q=>hk b hb fun e=>by
  obtain⟨c1,c2,c3,c4,c5⟩:=h.vo b e;exact q.elim c4 fun q=>c2 q.1
 have hn:∀ g,v'.ownBlock=some g→v.ownBlock=some g∨g=w'.heap.size:=fun g hg=>by
  rcases h3 with e|e
  (·exact .inl (e▸hg));rw[e]at hg;injection hg with hg;exact .inr hg.symm
 refine⟨hh,h.law,h.perm,hu,(hk gl xI fun e=>(h.vo gl e).2.2.1 rfl).trans h.left,by rw[aao,show sZ (outs++[i])=sZ outs++[(i:Int)] by simp];exact h1,
  fun b q r=>h.uv b q.1 r.1,⟨fun q=>a1 q.1,fun q=>a2 q.1,a3,a4⟩,⟨fun q=>b1 q.1,b2⟩,fun q=>h.vp q.1,fun b hb=>?_,h.lo⟩
 rcases hn b hb with e|e
 (·obtain⟨c1,c2,c3,c4,c5⟩:=h.vo b e;exact⟨fun q=>c1 q.1,fun q=>c2 q.1,c3,c4,c5⟩);exact⟨fun q=>by have:=q.2;omega,fun q=>by have:=q.2;omega,by omega,by omega,by omega⟩
end
theorem Xf {w:World} {B n c:Nat} {A:Option Addr} {l:List Nat} (h:w.ownsRow B 3 1 (bW A n c) n (ints (sZ l))):Sq jx w (fun b=>B≤b) A l:=by
 refine⟨l.map fun k:Nat=>[bU (k:Int)],by simp,fun hn=>?_,fun j cs x hc hx=>?_⟩
 ·(have hl:l.length=n:=by have:=h.1;simpa [ints,sZ]using this);have h0:0<n:=by
   rw[← hl];cases l with
   |nil=>exact absurd rfl hn
   |cons a r=>simp
  obtain⟨g,cap,e,hB,hlt⟩:=h.form h0;injection e with e1 e2 e3;subst e1 e3;refine⟨g,0,rfl,hB,hlt,fun j cs hj i v hv=>?_⟩;rw[List.getElem?_map]at hj;cases hlj:l[j]? with
  |none=>rw[hlj]at hj;cases hj
  |some x=>
   rw[hlj]at hj;injection hj with hj;subst hj;(have hi:i=0:=by have:=(List.getElem?_eq_some_iff.1 hv).1;simpa using this);subst hi;have e:bU (x:Int)=v:=(by simpa using hv);subst e;have hjl:=(List.getElem?_eq_some_iff.1 hlj).1;show w.cell? (bY g (0+j*1+0))=_;rw[show 0+j*1+0=j by omega,h.cellAt j af,List.getElem?_map,List.getElem?_map,hlj];rfl
 rw[List.getElem?_map,hx]at hc;injection hc with hc;exact hc.symm
def GF (w:World) (n:Nat):World:=(((w.alloc (.cells (aad n (bU 0)) 3)).alloc (.cells (aad n cD) 38)).alloc (.cells #[] 3)).alloc (.cells #[bW (bY (w+1+1) 0) 0 0] 107)
theorem D_.start (w:World) (n:Nat):D_ w (w+1+1+1) w (w+1) cD [] (aaw n 0) n (fun _=>[]) [] (fun b=>b=w.heap.size+1+1) (fun _=>False) (bY (w+1+1) 0) 0 0 [] (aaw n cD) (GF w n)∧Below w w (GF w n):=by
 have e1:(w.alloc (.cells (aad n (bU 0)) 3)).heap.size=w.heap.size+1:=aaI _ _;have e2:((w.alloc (.cells (aad n (bU 0)) 3)).alloc (.cells (aad n cD) 38)).heap.size=w.heap.size+1+1:=(by rw[aaI,e1]);have e3:(((w.alloc (.cells (aad n (bU 0)) 3)).alloc (.cells (aad n cD) 38)).alloc (.cells #[] 3)).heap.size=w.heap.size+1+1+1:=(by rw[aaI,e2]);have k1:=heap_alloc_new w (.cells (aad n (bU 0)) 3);have k2:=heap_alloc_new (w.alloc (.cells (aad n (bU 0)) 3)) (.cells (aad n cD) 38);have k3:=heap_alloc_new ((w.alloc (.cells (aad n (bU 0)) 3)).alloc (.cells (aad n cD) 38)) (.cells #[] 3);have k4:=heap_alloc_new (((w.alloc (.cells (aad n (bU 0)) 3)).alloc (.cells (aad n cD) 38)).alloc (.cells #[] 3)) (.cells #[bW (bY (w+1+1) 0) 0 0] 107);rw[e1]at k2;rw[e2]at k3;rw[e3]at k4;have b1:(GF w n).heap[w.heap.size]? =_:=(heap_alloc_old _ _ (by rw[e3];omega)).trans ((heap_alloc_old _ _ (by rw[e2];omega)).trans ((heap_alloc_old _ _ (by rw[e1];omega)).trans k1));have b2:(GF w n).heap[w.heap.size+1]? =_:=(heap_alloc_old _ _ (by rw[e3];omega)).trans ((heap_alloc_old _ _ (by rw[e2];omega)).trans k2);have b3:(GF w n).heap[w.heap.size+1+1]? =_:=(heap_alloc_old _ _ (by rw[e3];omega)).trans k3;have b4:(GF w n).heap[w.heap.size+1+1+1]? =_:=k4;refine⟨⟨⟨b4,⟨rfl,.inr ⟨_,0,#[],rfl,by omega,b3,aaB _,aaG _,by simp,by simp[ints]⟩⟩,rfl,by omega,by omega,fun g hg=>by injection hg with hg;exact hg.symm⟩,fun c h0 h1=>by omega,.refl _,⟨b2.trans ai,by simp,fun k v hv=>?_,fun k v g hv hg=>?_,fun j k v v' g hv _ hg=>?_,fun h=>h⟩,b1.trans (by simp[ints]),World.ownsRow_nil _ _ _ _,fun _ _ h=>h,⟨by omega,fun h=>h,by omega,by omega⟩,⟨by omega,by omega⟩,fun h=>h,fun b hb=>(nomatch hb),⟨by omega,by omega⟩⟩,?_⟩
 (·have:=List.eq_of_mem_replicate (List.mem_of_getElem? hv);subst this;exact World.ownsRow_nil _ _ _ _)
 (·have:=List.eq_of_mem_replicate (List.mem_of_getElem? hv);subst this;cases hg)
 (·have:=List.eq_of_mem_replicate (List.mem_of_getElem? hv);subst this;cases hg);exact(((((aaf _ w).alloc aac _).alloc (by rw[e1];omega) _).alloc (by rw[e2];omega) _).alloc (by rw[e3];omega) _)
end
end
open Go Go.RowKit Bg Go.Proofs Sh Kb Go.Maps Hp Kn
theorem kY {s:cL} {g:List (List Nat)} (hz:gh s) (h:jg s=some g):g.length≤100∧g.length=s.cells.length∧(∀ i,(g.getD i []).Nodup∧(g.getD i []).length≤100)∧WQ g:=by
 unfold jg at h;cases hx:yz s with
 |none=>rw[hx]at h;cases h
 |some l=>
  rw[hx]at h;injection h with h;obtain⟨hr,hl,_⟩:=EU hz hx;have hn:s.cells.length≤100:=by
   have:=(iE hr).len;(have:s.cells.length≤(uses s).length:=by simp[uses,iC,gP];omega);omega
  have xI:g.length=s.cells.length:=(by rw[← h,aap,hl]);have hrow:∀ i,(g.getD i [])=[]∨∃ x,g.getD i []=wR s.cells x:=fun i=>by
   rw[← h,aam,List.getElem?_map];cases l[i]? with
   |none=>exact .inl rfl
   |some x=>exact .inr ⟨x,rfl⟩
  refine⟨by omega,xI,fun i=>?_,fun i k hk=>?_⟩
  ·rcases hrow i with e|⟨x,e⟩
   (·rw[e];exact⟨List.nodup_nil,by simp⟩);rw[e];refine⟨(List.nodup_range).filter _,?_⟩;have:=List.length_filter_le (fun k=>match s.cells[k]? with|some c=>dy (isName c.name) x|none=>false) (aav s.cells.length);rw[List.length_range]at this;exact aaC this hn
  rcases hrow i with e|⟨x,e⟩
  (·rw[e]at hk;simp at hk);rw[e]at hk;rw[xI];exact ZZ k hk
def GG (r:Int×List Nat) (w:World) (e:Ending) (w':World):Prop:=∃ A c,e= .returned (.tuple #[bW A r.2 c,bU r.1])∧Sq jx w' (fun b=>w.heap.size≤b) A r.2∧Below w w w'
theorem E6 (a:ki) (s:cL) (w:World) (hI:ei w Any a s) (hZ:gh s):Calls prog 19 #[.agg (dU a s).toArray] w (GG (gG s) w):=by
 have HRs:=aa (show gG s=match jg s with|none=>(1,[])|some g=>match jv g with|none=>(23,[])|some l=>(0,l)from rfl);generalize gG s=res at HRs;generalize hP:GG res w=P;have HP:=aa (show ∀ e w',GG res w e w'→P e w' from fun e w' h=>hP▸h);clear hP;have HGR:=aa (fun W (h:Below w w W)=>yH a s W (hI.bZ h) hZ);have HGF:=aa (fun g (h:jg s=some g)=>kY hZ h);clear hI hZ;obtain⟨A1,q1,A2,q2,A3,q3,A4,q4,A5,q5,A6,q6,A7,q7,A8,q8⟩:=a;simp only[dU]at HGR ⊢;have zO:=aa (show cN (w.alloc (.cells (gT s A1 A2 A3 A4 A5 A6 A7 A8 q1 q2 q3 q4 q5 q6 q7 q8) 31)) w 31 (gT s A1 A2 A3 A4 A5 A6 A7 A8 q1 q2 q3 q4 q5 q6 q7 q8)from heap_alloc_new w _);have gY:=aa (show Below w w (w.alloc (.cells (gT s A1 A2 A3 A4 A5 A6 A7 A8 q1 q2 q3 q4 q5 q6 q7 q8) 31))from cS _);go_enter func19,ntmps19;go_upto_region 1 with fail;generalize (w.alloc (.cells (gT s A1 A2 A3 A4 A5 A6 A7 A8 q1 q2 q3 q4 q5 q6 q7 q8) 31))=w1 at zO gY ⊢;have hz1:=gY.o.size;have hp1:=zO.o.lt;have x1:=zO.o.cell;have HX1:=aa (HGR.o w1 gY.o);clear HGR;go_wp2_with fail;refine HX1.o.mono ?_;rintro e w2 ⟨hh,hb2⟩;have dI:=aa (gY.o.trans (hb2.mono hz1));clear HX1 x1 gY zO hb2;rcases hh with⟨hn,rfl⟩|⟨g,A,c,hsome,rfl,qU⟩
 (·have HN:=aa (show res=(1,[]) by rw[HRs.o,hn]);clear HRs HGF hn;go_wp2;exact HP.o _ _ (by rw[HN.o];exact⟨none,0,rfl,Sq.nil,dI.o⟩));obtain⟨hg1,xI,hg2,hg3⟩:=HGF.o g hsome;have D9:=aa (show res=match jv g with|none=>(23,[])|some l=>(0,l) by rw[HRs.o,hsome]);have lz:=aa (qU.mono (S':=fun b=>b<w2.heap.size) fun b hb q=>hb);have Vz:=aa hg2;have HGk:=aa hg3;obtain⟨n,hn⟩:∃ n,n=g.length:=⟨_,rfl⟩;have C7:=aa hn;rw[← hn]at hg1 ⊢;clear HRs HGF hsome qU hg2 hg3 hn xI;have hw2:=dI.o.size;have hmk1:∀ W:World,(Instr.makeSlice 38 (bU (n:Int)) (bU (n:Int))).run prog W= .ok (.slice (some ⟨W,0,none⟩) n n) (W.alloc (.cells (aad n (bU 0)) 3)):=fun W=>by
  have:=run_make_row' (P:=prog) 38 3 (bU 0) 8 underlying38 wj rfl .i64 .i64 n af af W;rw[show madeCells #[bU 0] n=aad n (bU 0)from by rw[← Array.toList_inj,toList_madeCells_one];simp]at this;exact this
 have hmk2:∀ W:World,(Instr.makeSlice 103 (bU (n:Int)) (bU (n:Int))).run prog W= .ok (bW (bY W 0) n n) (W.alloc (.cells (aad n (bW none 0 0)) 38)):=fun W=>by
  have:=run_make_row' (P:=prog) 103 38 cD 24 underlying103 JL rfl .i64 .i64 n af af W;rw[show madeCells #[cD] n=aad n (bW none 0 0)from by rw[← Array.toList_inj,toList_madeCells_one];simp]at this;exact this
 go_upto_region 7 with fail;obtain⟨hM0,hB0⟩:=D_.start w2 n;have HM0:=aa hM0;have gz:=aa hB0;clear hM0 hB0 hmk1 hmk2;change Code.wp _ _ _ _ (GF w2 n);have hB:w2.heap.size≤(GF w2 n).heap.size:=gz.o.size;generalize GF w2 n=w4 at HM0 gz hB ⊢;have Oa:=aa (show PW w2 (w2+1+1+1) w2 (w2+1) cD [] (j6 g 0) n (iz g 0) (gV g 0) w4 from⟨_,_,_,_,_,_,_,by
  rw[Jt,C7.o.symm];exact HM0.o⟩)
 clear HM0;generalize w2.heap.size+1+1+1=p at Oa ⊢;generalize w2.heap.size+1+1=gr at ⊢;generalize w2.heap.size+1=gu at Oa ⊢;obtain⟨B,hBe⟩:∃ B,B=w2.heap.size:=⟨_,rfl⟩;rw[← hBe]at Oa lz gz hw2 hB ⊢;have yI:=aa hBe;clear hBe;go_wp2;go_loopw [34] (fun v wr=>∃ i:Nat,i≤n∧v=bU (i:Int)∧Hid (PW B p B gu cD [] (j6 g i) n (iz g i) (gV g i) wr)∧Hid (Below B w2 wr)) (fun v _=>n - (intOf v).toNat);(case atStart=>exact⟨0,aaG _,rfl,Oa,gz⟩);clear Oa gz;obtain⟨i,hi,rfl,HS,uF⟩:=hrel;by_cases hlt:i<n;case neg=>
  (obtain rfl:i=n:=by omega);have Xg:=aa (show PW B p B gu cD [] (lens g) i (iz g i) (gV g i) wr by have:=HS.o;rw[C7.o,Ju]at this;rw[C7.o];exact this);clear HS hlt hi lz;obtain⟨K0,hK0⟩:∃ K0,K0=meas (lens g,gV g i):=⟨_,rfl⟩;have hKb:K0≤2*i:=(by rw[hK0,C7.o];exact CV g);have TN:=aa (show meas (lens g,gV g i)<2*i+1∧oD g=[]++D1 (nj g) (2*i+1) (lens g,gV g i)from⟨by omega,by rw[C7.o];rfl⟩);have zO:=aa hK0;have hx1:Tryz.prog.concrete 106=true:=ah;have hx2:Tryz.prog.concrete 3=true:=ah;clear hK0;go_upto_region 19 with fail;generalize wr=w7 at*;go_wp2;go_loopg [13] K0 (fun kx Zu wr=>∃ (outs:List Nat) (L:List Int) (q:List Nat) (f:Nat),meas (L,q)≤kx∧outs.length+meas (L,q)≤2*i∧Hid (PW B p B gu Zu outs L i (iz g i) q wr)∧Hid (Below B w2 wr)∧Hid (WO q)∧Hid (L.length=i)∧Hid (∀ k∈q,k<i)∧Hid (∀ k,-(200*(outs.length:Int))≤L.getD k 0∧L.getD k 0≤100)∧Hid (meas (L,q)<f∧oD g=outs++D1 (nj g) f (L,q)));(case atStart=>exact⟨[],lens g,gV g i,2*i+1,by have:=zO.o;omega,by have:=zO.o;simp;omega,Xg,uF,aa (Mm g i),aa (by rw[CU];exact C7.o.symm),aa fun k hk=>List.mem_range.1 (List.mem_filter.1 hk).1,aa (fun k=>⟨by have:=(C1 (fun i=>(Vz.o i).2) k).1;simpa using this,(C1 (fun i=>(Vz.o i).2) k).2⟩),TN⟩);clear Xg uF TN;obtain⟨outs,L,q,f,hkx,hob,HS,uF,HAs,C9,HQ,KJ,HKn⟩:=hrel;obtain⟨U,V,Ah,mh,ch,pV,vs,hM⟩:=HS.o;have hml:mh=q.length:=(by rw[← hM.heap.len,hM.perm.length_eq,aap]);have c0:b_ wr p 0 (bW Ah mh ch):=hM.heap.blk.cell 0;have uD:=aa (Mt Ah mh ch wr);obtain⟨Ao,co,hvo,_,_⟩:=iL hM.o;subst hvo;have HM:=aa hM;have holb:outs.length≤200:=af;clear hM HS;cases q with
  |nil=>
   obtain rfl:mh=0:=hml;have DY:=aa (show oD g=outs from by have:=HKn.o.2;rwa [Tt,List.append_nil]at this);have HSqo:=aa ((Xf HM.o.o).mono (S':=fun b=>w.heap.size≤b) fun b _ q=>by omega);have cG:=aa (dI.o.trans (uF.o.mono hw2));go_upto_region 30 with(go_at_call 46;refine uD.o.mono ?_;rintro e w8 ⟨rfl,rfl⟩);by_cases hlt:outs.length<i
   ·have HE:=aa (show P (.returned (.tuple #[cD,bU 23])) wr from HP.o _ _ (by
     (have:jv g=none:=by unfold jv;rw[DY.o,if_pos (by rw[← C7.o];exact hlt)]);rw[D9.o,this];exact⟨none,0,rfl,Sq.nil,cG.o⟩))
    clear HM;go_wp2;exact HE.o
   have HE:=aa (show P (.returned (.tuple #[bW Ao outs co,bU 0])) wr from HP.o _ _ (by
    (have:jv g=some outs:=by unfold jv;rw[DY.o,if_neg (by rw[← C7.o];exact hlt)]);rw[D9.o,this];exact⟨Ao,co,rfl,HSqo.o,cG.o⟩))
   clear HM;go_wp2;exact HE.o
  |cons k q=>
   obtain⟨mq,Yo⟩:∃ mq,mq=q.length:=⟨_,rfl⟩;(obtain rfl:mh=mq+1:=by rw[hml,Yo];rfl);have hmq2:mq≤200:=by
    (have:meas (L,k :: q)=mq+1+L.countP (fun z=>decide (0<z)):=by rw[Yo];rfl);omega
   have hk0:=PG HM.o.law HM.o.heap.len HM.o.perm HAs.o;have hki:k<i:=HQ.o k ai;(have hta:∀ W:World,(Instr.typeAssert (.iface 3 (bU (k:Int))) 20 3 false).run prog W= .ok (bU (k:Int)) W:=fun W=>by kernel_rfl);have hpo:=aa (Z5 p B U Ah mq ch pV wr HM.o.heap HM.o.law af);have HML:=aa Yo;clear hml Yo;go_upto_region 22 with(first|(go_at_call 46;refine uD.o.mono ?_;rintro e w8 ⟨rfl,rfl⟩)|(go_at_call 47;refine hpo.o.mono ?_;(rintro e w8 ⟨rfl,l8,h8,p8,n8,t8⟩;rw[hk0])));have hm8:=HM.o.turn (q':=q) (h8.mono (U':=fun b=>U b∨wr.heap.size≤b) (fun b _ q=> .inl q) (fun q=>q.elim HM.o.heap.o (by have:=HM.o.heap.sK;omega))) n8 (by
    have h1:=p8.trans HM.o.perm;rw[hk0]at h1;exact h1.cons_inv) t8
   have Q7:=aa hm8;have mN:=aa (uF.o.trans t8.low);have hsz8:=t8.low.size;clear hpo hm8 h8 p8 n8 t8 HM uD c0 hk0 uF;have TP:=aa (fun(o:Obj)=>kr (w':=w8.alloc o) Q7.o.o fun b hb=>heap_alloc_old w8 o (Q7.o.o.lt b hb).2);have Yp:(w8.alloc (.cells #[bU (k:Int)] 3)).cell? (bY w8 0)=some (bU (k:Int)):=cell_of_row _ _ _ _ _ _ (heap_alloc_new w8 _);(have hBw:B≤w8.heap.size:=by have:=mN.o.size;have:=yI.o;omega);have hvk0:k<vs.length:=(by rw[Q7.o.use.len];exact hki);have TQ:=List.getElem?_eq_getElem hvk0;generalize vs[k]=vv at TQ;have hown:=Q7.o.use.row k vv TQ;obtain⟨Au,cu,hv,_,_⟩:=iL hown;subst hv;have HUr:=aa (show(nj g).getD k []=iz g i k by rw[C7.o];exact C0 (by rw[← C7.o];exact hki));have hRl:=Mo g i k;have fD:=aa (fun j (h:j∈iz g i k)=>PK h);obtain⟨RU,hRU⟩:∃ RU,RU=iz g i k:=⟨_,rfl⟩;rw[← hRU]at HUr hRl fD;obtain⟨mm,hmm⟩:∃ mm,mm=RU.length:=⟨_,rfl⟩;have HMm:=aa hmm;have hvk':vs[k]? =some (bW Au mm cu):=(by rw[TQ,hmm,hRU]);have HVk:=aa hvk';have HRU:=aa hRU;rw[← hmm]at hRl;clear hown TQ hRU hvk0 hmm;go_wp2_with (at_builtin;refine lQ rfl (.tmp 79) (.tmp 81) 38 rfl underlying38 (TP.o _) rfl rfl Yp af (by rw[aaI];exact Nat.le_succ_of_le hBw) ?_);intro A9 c9 w9 g1 g2 g3;have hm9:=Q7.o.came (fun b hb=>heap_alloc_old w8 _ hb) aJ (by simpa [ints,sZ]using g1) g2 (by rw[aaI];exact g3);have jt:=aa (mN.o.trans (((aaf B w8).alloc hBw _).grown g2 aJ fun b hb=>((TP.o (.map #[] 0)).lt b hb).1));have u0:b_ w9 gu k (bW Au mm cu):=(hm9.use.blk.cell k).trans hvk';have NW:=aa (show ∃ U V A m c pV,D_ B p B gu (bW A9 (outs.length+1) c9) (outs++[k]) (gN (RU.take 0) (L,q)).1 i (iz g i) (gN (RU.take 0) (L,q)).2 U V A m c pV vs w9 from⟨_,_,_,_,_,_,hm9⟩);have HMe:=aa (show meas (L,k :: q)=meas (L,q)+1 by simp[meas];omega);go_wp2_with fail;clear hm9 g1 g2 g3 TP Yp Q7 mN hvk' u0 hBw hsz8 hta;generalize w8.heap.size=z8 at ⊢;clear wr w8;go_loopw [88] (fun v wr=>∃ j:Nat,j≤mm∧v=bU (j:Int)∧Hid (∃ U V A m c pV,D_ B p B gu (bW A9 (outs.length+1) c9) (outs++[k]) (gN (RU.take j) (L,q)).1 i (iz g i) (gN (RU.take j) (L,q)).2 U V A m c pV vs wr)∧Hid (Below B w9 wr)) (fun v _=>mm - (intOf v).toNat);(case atStart=>exact⟨0,aaG _,rfl,NW,aa (aaf _ _)⟩);clear NW;obtain⟨j,hj,rfl,HMj,AU⟩:=hrel;by_cases hjm:j<mm;case neg=>
    (obtain rfl:j=mm:=by omega);rw[HMm.o,List.take_length]at HMj;have Mz:=aa (show PW B p B gu (bW A9 (outs.length+1) c9) (outs++[k]) (gN RU (L,q)).1 i (iz g i) (gN RU (L,q)).2 wr from by
     obtain⟨U,V,A,m,c,pV,h⟩:=HMj.o;exact⟨U,V,A,m,c,pV,vs,h⟩)
    have HB9':=aa (jt.o.trans AU.o);have hrm:=uY (us:=RU) (s:=(L,q)) (fun m hm=>by rw[C9.o];exact fD.o m hm);have hAs:=PI RU (s:=(L,q)) (List.pairwise_cons.1 HAs.o).2;have hLe:=(yy RU (L,q)).trans C9.o;have hQ:=PJ RU (s:=(L,q)) (n:=i) (fun m hm=>fD.o m hm) (fun m hm=>HQ.o m (by simp[hm]));have VB:=EY RU (s:=(L,q)) (fun m hm=>by rw[C9.o];exact fD.o m hm) KJ.o;have hK:meas (gN RU (L,q))<f - 1∧oD g=(outs++[k])++D1 (nj g) (f - 1) (gN RU (L,q)):=by
     obtain⟨h1,h2⟩:=HKn.o;rw[HMe.o]at h1;refine⟨by omega,?_⟩;rw[h2,show f=(f - 1)+1 by omega,EZ,HUr.o,List.append_assoc];rfl
    have hme:=HMe.o;have hml:=HMm.o;have HF:=aa (And.intro hAs (And.intro hLe (And.intro hQ (And.intro VB hK))));have hl1:(outs++[k]).length=outs.length+1:=ai;clear hAs hLe hQ VB hK HMj jt AU HKn KJ HQ HAs C9;generalize gN RU (L,q)=s9 at Mz HF hrm;obtain⟨L9,q9⟩:=s9;go_wp2;go_roundg (meas (L9,q9));(case measure=>omega);(case rel=>exact⟨outs++[k],L9,q9,f - 1,aaB _,by omega,Mz,HB9',aa HF.o.1,aa HF.o.2.1,aa HF.o.2.2.1,aa (fun m=>by have:=HF.o.2.2.2.1 m;rw[hl1];omega),aa HF.o.2.2.2.2⟩)
   (have TR:j<RU.length:=by have:=HMm.o;omega);obtain⟨U,V,Ah,mh,ch,pV,hM⟩:=HMj.o;have hrow:=hM.use.row k _ HVk.o;have hrow:wr.ownsRow B 3 1 (bW Au mm cu) mm (ints (sZ RU)):=(by rw[← HRU.o, ← HMm.o]at hrow;exact hrow);obtain⟨g0,cap0,e0,_,_⟩:=hrow.form af;injection e0 with e1 e2 e3;subst e1 e3;have k0:b_ wr g0 j (bU ((RU[j]:Nat):Int)):=by
    rw[hrow.cellAt j af,List.getElem?_map,List.getElem?_map,List.getElem?_eq_getElem TR];rfl
   have hkn:=fD.o _ (aan TR);have qV:=aa (Mn (s:=(L,q)) TR);have hrm:=uY (us:=RU.take j) (s:=(L,q)) (fun m hm=>by rw[C9.o];exact fD.o m (List.mem_of_mem_take hm));have hLe:=(yy (RU.take j) (L,q)).trans C9.o;have VB:=EY (RU.take j) (s:=(L,q)) (fun m hm=>by rw[C9.o];exact fD.o m (List.mem_of_mem_take hm)) KJ.o RU[j];have hlt:(RU.take j).length=j:=(by rw[aaq];omega);rw[hlt]at VB;have hqm:(gN (RU.take j) (L,q)).2.length≤meas (gN (RU.take j) (L,q)):=(by unfold meas;omega);generalize RU[j]=kk at k0 hkn qV VB;generalize gN (RU.take j) (L,q)=s9 at hM qV hrm hLe VB hqm;obtain⟨L9,q9⟩:=s9;simp only at hM hLe VB hqm;have nK:kk<L9.length:=af;obtain⟨z,hz⟩:∃ z,z=L9.getD kk 0:=⟨_,rfl⟩;have hgd:(L9.set kk (z - 1)).getD kk 0=z - 1:=mO nK _;have HLs:=aa (show less (L9,q9) kk=(L9.set kk (z - 1),if z - 1=0 then ins kk q9 else q9) by unfold less;simp only[← hz];rw[hgd]);rw[← hz]at VB;have c0:b_ wr B kk (bU z):=by
    rw[hM.left.cell,List.getElem?_map,List.getElem?_eq_getElem nK,hz,aam,List.getElem?_eq_getElem nK];rfl
   have f0:=hM.left.frozen kk;have hzlo:-100000≤z:=af;have hzhi:z≤100:=VB.2;have hMS:=hM.setL kk (z - 1);have hmh:mh=q9.length:=(by rw[← hM.heap.len,hM.perm.length_eq,aap]);have hme:=HMe.o;have hmh2:mh+1≤1000000:=(by rw[hmh];omega);have GH:=aa hMS;clear hM hMS hrow hrm hLe VB hqm hgd hz hmh hme HMj;go_upto_region 27 with fail;have DF:=aa (AU.o.setCell (p:=bY B kk) aac (bU (z - 1)));have c1:(wr.setCell (bY B kk) (bU (z - 1))).cell? (bY B kk)=some (bU (z - 1)):=by
    rw[GH.o.left.cell,List.getElem?_map,List.getElem?_set_self nK];rfl
   generalize (wr.setCell (bY B kk) (bU (z - 1)))=w10 at GH DF c1 ⊢;clear c0 f0 k0;by_cases h0:z - 1=0
   ·have hb0:(z - 1==0)=true:=aS;have HTk2:=aa (show gN (RU.take (j+1)) (L,q)=(L9.set kk (z - 1),ins kk q9) by rw[qV.o,HLs.o,if_pos h0]);have hpu:=aa (N8 p B U Ah mh ch pV (kk:Int) w10 GH.o.heap GH.o.law hmh2);clear h0;go_wp2_with (go_at_call 45;refine hpu.o.mono ?_;rintro e w11 ⟨rfl,A7,c7,l7,h7,⟨p7,n7⟩,t7⟩);have HS11:=aa (GH.o.turn (q':=ins kk q9) h7 n7 (by
     refine p7.trans ((GH.o.perm.cons _).trans ?_);exact((sO kk q9).map fun n:Nat=>(n:Int)).symm) t7)
    have TT:=aa (DF.o.trans t7.low);go_roundw;exact⟨j+1,by omega,rfl,aa (by rw[HTk2.o];exact⟨_,_,_,_,_,_,HS11.o⟩),TT⟩;simp[intOf];omega
   have hb0:(z - 1==0)=false:=aS;have HTk2:=aa (show gN (RU.take (j+1)) (L,q)=(L9.set kk (z - 1),q9) by rw[qV.o,HLs.o,if_neg h0]);clear h0;go_wp2;go_roundw;exact⟨j+1,by omega,rfl,aa (by rw[HTk2.o];exact⟨_,_,_,_,_,_,GH.o⟩),DF⟩;simp[intOf];omega
 case pos=>
  have Yq:i<g.length:=by have:=C7.o;omega
  obtain⟨b,o,cs,hA,xM,hbl,⟨Al,cl,hcs,hrow⟩,cT⟩:=(lz.o.keep (cB.tM uF.o fun b hb=>hb)).get Yq
  subst hA hcs
  have hgi:g.getD i []=g[i]:=by rw[aam,List.getElem?_eq_getElem Yq];rfl
  have c0:b_ wr b (o+i) (bW Al g[i].length cl):=by have:=cT 0 _ rfl;rwa [show o+i*C8.k+0=o+i by show o+i*1+0=_;omega]at this
  have hrk:∀ k∈g[i],k<n:=fun k hk=>by have:=HGk.o i k (hgi▸hk);rw[C7.o];exact this
  have FR:=Jv Yq
  rw[hgi]at FR
  have Ws:=Tp g i
  have hnd:=(Vz.o i).1
  have hmb:=(Vz.o i).2
  have hrn:=Js g i
  have hst:=fun j (hj:j<(g.getD i []).length)=>Tr hnd hj
  have hfl:=Tq g i
  rw[hgi]at hnd hrn hst hfl hmb
  generalize g[i]=row at hrow c0 hrk FR hnd hrn hst hfl hgi hmb
  obtain⟨m,hm⟩:∃ m,m=row.length:=⟨_,rfl⟩
  have Hr:=aa hm
  rw[← hm]at c0 FR hfl hmb
  have HLL:=aa FR
  have HUs:=aa Ws
  have HRn:=aa hrn
  have yD:=aa hst
  have HFl:=aa hfl
  have rP:=aa (fun W (h:Below B wr W)=>hrow.keep (cB.tM h fun b hb=>hb))
  have HRk:=aa hrk
  clear cT hm FR Ws hrn hst hfl hgi hnd hrow hrk
  obtain⟨U,V,Ah,mh,ch,pV,vs,hM⟩:=HS.o
  have hgz:=hM.left.lt
  have zc:b_ wr B i (bU ((j6 g i)[i]'(by rw[CZ af];exact Yq))):=by
   rw[hM.left.cell,List.getElem?_map,List.getElem?_eq_getElem (by rw[CZ af];exact Yq)];rfl
  have zf:=hM.left.frozen i
  have hqb:(gV g i).length≤i:=by
   have:=List.length_filter_le (fun j=>(g.getD j []).isEmpty) (aav i)
   rwa [List.length_range]at this
  have hmh:mh=(gV g i).length:=by rw[← hM.heap.len,hM.perm.length_eq,aap]
  have Hs:=aa (hM.setL i (m:Int))
  rw[HLL.o]at Hs
  have hx1:Tryz.prog.concrete 106=true:=by kernel_rfl
  have hx2:Tryz.prog.concrete 3=true:=by kernel_rfl
  clear hM
  go_upto_region 11 with fail
  have eo:=aa (uF.o.setCell (p:=bY B i) aac (bU (m:Int)))
  have hz6:(wr.setCell (bY B i) (bU (m:Int))).heap.size=wr.heap.size:=by simp[World.setCell]
  have cG:=aa ((aaf B wr).setCell (p:=bY B i) aac (bU (m:Int)))
  generalize (wr.setCell (bY B i) (bU (m:Int)))=w6 at Hs eo hz6 cG ⊢
  clear zc zf c0 HS HLL
  have HR6:=aa (rP.o w6 cG.o)
  clear rP uF hgz hbl hz6 cG
  rcases Nat.eq_zero_or_pos m with h0|h0
  case' inl=>
   have h2:(m==0)=true:=by simpa using h0
   have h3:((m:Int)==0)=true:=by simpa using h0
   have Pr:=aa h0
   clear h0
   have hpu:=aa (N8 p B U Ah mh ch pV (i:Int) w6 Hs.o.heap Hs.o.law af)
   go_upto_region 13 with(go_at_call 45;refine hpu.o.mono ?_;rintro e w7 ⟨rfl,A7,c7,l7,h7,⟨p7,n7⟩,t7⟩)
   have wT:row=[]:=List.eq_nil_of_length_eq_zero (Hr.o.symm.trans Pr.o)
   have HS7:=aa (show PW B p B gu cD [] (j6 g (i+1)) n (EX g i 0) (gV g (i+1)) w7 from⟨_,_,_,_,_,_,_,Hs.o.turn (q':=gV g (i+1)) h7 n7 (by
    rw[HRn.o,wT];refine p7.trans ?_;rw[show sZ (gV g i++if([]:List Nat).isEmpty=true then[i]else[])=sZ (gV g i)++[(i:Int)] by simp];exact(Hs.o.perm.cons _).trans (List.perm_append_comm (l₁:=[(i:Int)]))) t7 |> fun h=>HUs.o▸h⟩)
   have j9:=aa (eo.o.trans t7.low)
   have HR7:=aa (HR6.o.keep (cB.tM t7.low fun b hb=>hb))
   clear h7 p7 n7 t7 hpu Hs eo HR6 wT h2 h3
   have HE1:=aa (fun j (h:j<m)=>(by have:=Pr.o;omega:False))
   clear Pr
  case' inr=>
   have h1:¬m=0:=by omega
   have h2:(m==0)=false:=by simpa using h1
   have h3:((m:Int)==0)=false:=by simpa using h1
   go_upto_region 13 with fail
   have HS7:=aa (show PW B p B gu cD [] (j6 g (i+1)) n (EX g i 0) (gV g (i+1)) w6 from⟨_,_,_,_,_,_,_,by
    have hne:row.isEmpty=false:=by
     cases row with
     |nil=>exact absurd Hr.o aF
     |cons a r=>rfl
    rw[HRn.o,hne,HUs.o];simpa using Hs.o⟩)
   have j9:=eo
   have HR7:=HR6
   have HE1:=aa trivial
   clear h1 h2 h3 Hs eo HR6
   generalize w6=w7 at*
  all_goals (
   clear hmh HRn HUs U V Ah mh ch pV vs
   clear wr w6
   go_wp2_with fail
   go_loopw [54] (fun v wr=>∃ j:Nat,j≤m∧v=bU (j:Int)∧Hid (PW B p B gu cD [] (j6 g (i+1)) n (EX g i j) (gV g (i+1)) wr)∧Hid (Below B w7 wr)) (fun v _=>m - (intOf v).toNat)
   case atStart=>exact⟨0,aaG _,rfl,HS7,aa (aaf _ _)⟩
   case round=>
    clear HS7;obtain⟨j,hj,rfl,HSj,AU⟩:=hrel;by_cases hjm:j<m;(case neg=>(obtain rfl:j=m:=by omega);have Mz:=aa (show PW B p B gu cD [] (j6 g (i+1)) n (iz g (i+1)) (gV g (i+1)) wr from HFl.o▸HSj.o);have jt:=aa (j9.o.trans AU.o);clear HSj AU j9 HR7;go_wp2;go_roundw;exact⟨i+1,by omega,rfl,Mz,jt⟩;simp[intOf];omega);first
     |exact(HE1.o j hjm).elim
     |(
      have TR:j<row.length:=by have:=Hr.o;omega
      obtain⟨bl,ol,cs,hAl,_,_,hcs,cT⟩:=(HR7.o.keep (cB.tM AU.o fun b hb=>hb)).get TR
      subst hAl
      have hcs:cs=[bU ((row[j]:Nat):Int)]:=hcs
      subst hcs
      have k0:b_ wr bl (ol+j) (bU ((row[j]:Nat):Int)):=by have:=cT 0 _ rfl;rwa [show ol+j*jx.k+0=ol+j by show ol+j*1+0=_;omega]at this
      have hkn:=HRk.o _ (aan TR)
      have N2:=aa (yD.o j TR)
      generalize row[j]=k at k0 hkn N2
      obtain⟨U,V,Ah,mh,ch,pV,vs,hM⟩:=HSj.o
      have hkv:k<vs.length:=by rw[hM.use.len];exact hkn
      have TQ:=List.getElem?_eq_getElem hkv
      generalize vs[k]=vv at TQ
      have hown:=hM.use.row k vv TQ
      obtain⟨Av,cv,hv,_,_⟩:=iL hown
      subst hv
      have A_:(EX g i j k).length≤i+1:=by
       unfold EX iz;have h1:=List.length_filter_le (fun i=>(g.getD i []).contains k) (aav i);rw[List.length_range]at h1;rw[aao];refine Nat.add_le_add h1 ?_;split<;>simp
      have u0:b_ wr gu k (bW Av (EX g i j k).length cv):=(hM.use.blk.cell k).trans TQ
      have TP:=aa (fun(o:Obj)=>kr (w':=wr.alloc o) hown fun b hb=>heap_alloc_old wr o (hown.lt b hb).2)
      have Yp:(wr.alloc (.cells #[bU (i:Int)] 3)).cell? (bY wr 0)=some (bU (i:Int)):=cell_of_row _ _ _ _ _ _ (heap_alloc_new wr _)
      have HM:=aa hM
      have hBw:B≤wr.heap.size:=by have:=AU.o.size;have:=j9.o.size;have:=yI.o;omega
      clear cT hM hown HSj
      go_wp2_with (at_builtin;refine lQ rfl (.tmp 63) (.tmp 65) 38 rfl underlying38 (TP.o _) rfl rfl Yp af (by rw[aaI];exact Nat.le_succ_of_le hBw) ?_)
      intro A9 c9 w9 g1 g2 g3
      have s9:=g2.size
      rw[aaI]at s9
      have hUP:=HM.o.use.push (i:=i) TQ (fun b hb=>heap_alloc_old wr _ hb) aJ (by simpa [ints,sZ]using g1) g2 (by rw[aaI];exact g3)
      rw[N2.o]at hUP
      have hbl:=HM.o.use.blk
      have PU:(bW Av (EX g i j k).length cv).ownBlock≠some gu:=fun e=>HM.o.use.o (HM.o.use.Xd k _ gu TQ e)
      have k9:w9.heap[gu]? =wr.heap[gu]? :=(g2.block gu (by rw[aaI];have:=hbl.lt;omega) (fun q=>PU q.symm)).trans (heap_alloc_old wr _ hbl.lt)
      have b9:cN w9 gu 38 vs:=k9.trans hbl
      have f9:=b9.frozen k
      have z9:b_ w9 gu k (bW Av (EX g i j k).length cv):=(b9.cell k).trans TQ
      have hsz:(w9.setCell (bY gu k) (bW A9 ((EX g i j k).length+1) c9)).heap.size=w9.heap.size:=by simp[World.setCell]
      have Mz:=aa (show PW B p B gu cD [] (j6 g (i+1)) n (EX g i (j+1)) (gV g (i+1)) (w9.setCell (bY gu k) (bW A9 ((EX g i j k).length+1) c9))from⟨_,_,_,_,_,_,_,HM.o.used hUP.1 (by rw[hsz];omega) hUP.2⟩)
      have jt:=aa (show Below B w7 (w9.setCell (bY gu k) (bW A9 ((EX g i j k).length+1) c9))from
       (((AU.o.alloc hBw _).grown g2 aJ fun b hb=>((TP.o (.map #[] 0)).lt b hb).1).setCell (p:=bY gu k) HM.o.lo.2 _))
      clear hUP hbl PU k9 b9 hsz g1 g2 g3 TP Yp u0 k0 HM AU
      go_wp2_with fail
      go_roundw
      case rel=>exact⟨j+1,by omega,rfl,Mz,jt⟩
      case measure=>simp[intOf];omega))
end Go.Proofs.YtfppbjfnllhgcaaGreat
namespace Ln
open Go.Proofs.YtfppbjfnllhgcaaGreat Kb Sh
section
theorem Da {p:cw→Bool} (hz:p kH.x=false) {op n:Int} {un nm:ByteArray} (h:∀ l,p (.mk op n un nm l)=false):∀ (l:List cV) (a b:Int) (acc:List cw),(∀ y∈acc,dy p y=false)→(∀ y∈l,dy p y.x=false)→dy p (tY op n un nm a b acc l).x=false
 |[],a,b,acc,ha,_=>mG (h _) ha
 |y :: l,a,b,acc,ha,hy=>by
  unfold tY;split
  (·(exact mG hz fun y hy=>by simp at hy));exact Da hz h l _ _ _ (fun z hz=>by
   rcases List.mem_append.1 hz with hz|hz
   (·exact ha z hz);rw[aau.1 hz];exact hy y ai) fun z hz=>hy z (by simp[hz])
theorem PX {G:Nat→cV} {fs:List cK} {nm:ByteArray} (x:cw) (h:dy (isName nm) x=false):dy (isName nm) (eC G fs x).x=false:=
 wH (Q:=fun y=>dy (isName nm) y.x=false) (ok:=fun x=>dy (isName nm) x=false) (fun op n u m l h y hy=>iY h (by exact hy)) (mG rfl fun y hy=>by simp at hy)
  (fun op n un m r h1 hr=>Da rfl (fun l=>by show(op==1&&_)=false;rw[show(op==1)=false by simpa using h1];rfl) r 1 1 [] (fun y hy=>by simp at hy) hr)
  (fun n un m l r ho hr=>Da rfl (fun l'=>(ia ho:isName nm (.mk 1 n un m l)=false)) r 1 1 [] (fun y hy=>by simp at hy) hr) _ x aac h
theorem Yr {op n:Int} {un nm:ByteArray}:∀ (l:List cV) (a b:Int) (acc:List cw),(tY op n un nm a b acc l).full=false→(tY op n un nm a b acc l).x= .mk op n un nm (acc++l.map (·.x))∧∀ y∈l,y.full=false
 |[],a,b,acc,_=>⟨by unfold tY;simp,by simp⟩
 |y :: l,a,b,acc,h=>by
  unfold tY at h ⊢;split
  (·(next h1=>rw[if_pos h1]at h;cases h));next h1=>
  rw[if_neg h1]at h;obtain⟨h2,h3⟩:=Yr l _ _ _ h;refine⟨by rw[h2];simp,fun z hz=>?_⟩;rcases List.mem_cons.1 hz with rfl|hz
  ·cases e:z.full with
   |false=>rfl
   |true=>rw[e]at h1;exact absurd ai h1
  exact h3 z hz
theorem PY {G:Nat→cV} {fs:List cK} (N:Nat):∀ x:cw,cE x≤N→dy (fun y=>y.op==3) x=false→(eC G fs x).full=false→(eC G fs x).x=x:=by
 induction N with
 |zero=>intro x hx;have:=dB x;omega
 |succ N ih=>
  intro x hx h hf;cases x with
  |mk op n u nm l=>
   have hn:cE (.mk op n u nm l)=1+cR l:=aM;have h3:¬op=3:=fun e=>by
    have:(op==3)=false:=ia h;rw[e]at this;cases this
   unfold Go.Proofs.YtfppbjfnllhgcaaGreat.eC at hf ⊢;rw[if_neg h3]at hf ⊢;obtain⟨h1,h2⟩:=Yr _ _ _ _ hf;rw[h1,List.nil_append,iZ,List.map_map];congr 1;have:l.map ((fun z:cV=>z.x) ∘ eC G fs)=l.map id:=List.map_congr_left fun y hy=>ih y aN (iY h hy) (h2 _ (by rw[iZ];exact aat.2 ⟨y,hy,rfl⟩));rw[this,List.map_id]
theorem TV {x:cw} (h:dy (jG []) x=false):dy (fun y=>y.op==3) x=false:=by
 have key:∀ N (x:cw),cE x≤N→dy (jG []) x=false→dy (fun y=>y.op==3) x=false:=by
  intro N;induction N with
  |zero=>intro x hx;have:=dB x;omega
  |succ N ih=>
   intro x hx h;cases x with
   |mk op n u nm l=>
    have hn:cE (.mk op n u nm l)=1+cR l:=aM;refine mG ?_ fun y hy=>ih y aN (iY h hy);show(op==3)=false;cases e:op==3 with
    |false=>rfl
    |true=>
     have h1:=ia h;have h2:=known h1 (eq_of_beq e);have:=(qu h2).2;exact absurd this ai
 exact key _ x aac h
def td (o:List Nat) (a b:Nat):Prop:=∃ u v:Nat,u<v∧o[u]? =some a∧o[v]? =some b
theorem GI {o:List Nat} (h:o.Nodup) {u v a:Nat} (hu:o[u]? =some a) (hv:o[v]? =some a):u=v:=by
 obtain⟨h1,e1⟩:=List.getElem?_eq_some_iff.1 hu;obtain⟨h2,e2⟩:=List.getElem?_eq_some_iff.1 hv;exact Er h h1 h2 (e1.trans e2.symm)
theorem td.trans {o:List Nat} (h:o.Nodup) {a b c:Nat} (p:td o a b) (q:td o b c):td o a c:=by
 obtain⟨u,v,h1,h2,h3⟩:=p;obtain⟨u',v',h4,h5,h6⟩:=q;have:=GI h h3 h5;exact⟨u,v',by omega,h2,h6⟩
theorem td.asymm {o:List Nat} (h:o.Nodup) {a b:Nat} (p:td o a b) (q:td o b a):False:=by
 obtain⟨u,v,h1,h2,h3⟩:=p.trans h q;have:=GI h h2 h3;omega
theorem Db {p q:cw→Bool} (h:∀ y,p y=true→q y=true) {x:cw} (hx:dy p x=true):dy q x=true:=by
 have key:∀ N (x:cw),cE x≤N→dy p x=true→dy q x=true:=by
  intro N;induction N with
  |zero=>intro x hx;have:=dB x;omega
  |succ N ih=>
   intro x hx hs;cases x with
   |mk op n u nm l=>
    have hn:cE (.mk op n u nm l)=1+cR l:=aM;rw[lI,Bool.or_eq_true,List.any_eq_true]at hs ⊢;rcases hs with hs|⟨y,hy,hs⟩
    (·exact .inl (h _ hs));exact .inr ⟨y,hy,ih y aN hs⟩
 exact key _ x aac hx
theorem MB {iV:ByteArray→Bool} {nm:ByteArray} {x:cw} (h:((4:Int),nm)∈fJ iV false x):iV nm=true∧dy (isName nm) x=true:=by
 have h1:=(CY (iV:=iV) (par:=false) (z:=(4,nm)) (q:=fun y=>y.op==1&&iV y.name&&y.name==nm) (fun y=>by
  unfold jC;by_cases h2:y.op=2
  (·rw[if_pos h2,h2];simp);rw[if_neg h2];by_cases h3:y.op=3
  (·rw[if_pos h3,h3];simp);rw[if_neg h3];by_cases h1:y.op=1
  ·rw[if_pos ⟨h1,rfl⟩,h1];cases hc:iV y.name with
   |true=>rw[if_pos rfl];simp;exact⟨fun e=>e.symm,fun e=>e.symm⟩
   |false=>rw[if_neg ak];simp
  rw[if_neg (fun h=>h1 h.1)];simp[h1]) _ x aac).1 h
 refine⟨?_,Db (fun y hy=>?_) h1⟩
 ·have key:∀ N (x:cw),cE x≤N→dy (fun y=>y.op==1&&iV y.name&&y.name==nm) x=true→iV nm=true:=by
   intro N;induction N with
   |zero=>intro x hx;have:=dB x;omega
   |succ N ih=>
    intro x hx hs;cases x with
    |mk op n u m l=>
     have hn:cE (.mk op n u m l)=1+cR l:=aM;rw[lI,Bool.or_eq_true,List.any_eq_true]at hs;rcases hs with hs|⟨y,hy,hs⟩
     (·rw[aag,aag]at hs;have:=eq_of_beq hs.2;rw[← this];exact hs.1.2);exact ih y aN hs
  exact key _ x aac h1
 rw[aag,aag]at hy;unfold isName;rw[hy.1.1,hy.2];rfl
section
variable {s:cL} {g:List (List Nat)} (hg:jg s=some g)
include hg
theorem pH:fQ s=true∧gO s.funcs=0∧(∀ c∈s.cells,(CW s.funcs c).1=0)∧g=(s.cells.map fun c=>(CW s.funcs c).2).map (wR s.cells):=by
 unfold jg yz at hg;split at hg
 (·(next h=>exact⟨h.1,h.2.1,h.2.2,by injection hg with hg;exact hg.symm⟩));cases hg
theorem Dc {i:Nat} (hi:i<s.cells.length):g.getD i []=wR s.cells (CW s.funcs s.cells[i]).2:=by
 obtain⟨_,_,_,e⟩:=pH hg;rw[e,aam,List.getElem?_map,List.getElem?_map,List.getElem?_eq_getElem hi];rfl
theorem mem_row {i k:Nat} (hi:i<s.cells.length):k∈g.getD i []↔∃ hk:k<s.cells.length,dy (isName s.cells[k].name) (CW s.funcs s.cells[i]).2=true:=by
 rw[Dc hg hi];unfold wR;rw[List.mem_filter,List.mem_range];constructor
 (·rintro⟨hk,h⟩;rw[List.getElem?_eq_getElem hk]at h;exact⟨hk,h⟩);rintro⟨hk,h⟩;refine⟨hk,?_⟩;rw[List.getElem?_eq_getElem hk];exact h
omit hg in theorem Yt {fs:List cK} {c:fH} (h:(CW fs c).1=0):(CW fs c).2=(eC (pR fs) fs c.lC).x∧(eC (pR fs) fs c.lC).full=false∧dy (jG fs) c.lC=false:=by
 unfold CW fP at h ⊢;by_cases h1:dy (jG fs) c.lC=true
 (·rw[if_pos h1]at h;cases h);rw[if_neg h1]at h ⊢;by_cases h2:dy (jX fs) c.lC=true
 (·rw[if_pos h2]at h;cases h);rw[if_neg h2]at h ⊢;by_cases h3:(eC (pR fs) fs c.lC).full=true
 (·rw[if_pos h3]at h;cases h);rw[if_neg h3];exact⟨rfl,by simpa using h3,by simpa using h1⟩
theorem TW {i k:Nat} (hi:i<s.cells.length) (h:k∈g.getD i []):∃ hk:k<s.cells.length,((4:Int),s.cells[k].name)∈xL s s.cells[i].name:=by
 obtain⟨hr,_,h3,_⟩:=pH hg;obtain⟨hk,h4⟩:=(mem_row hg hi).1 h;refine⟨hk,?_⟩;have A:=sS hr;have hc:=aan hi;refine Jm (g_ hc) gp (N7 hc) ?_;rw[Jn A hc];refine(PE A (z:=(4,s.cells[k].name)) (List.mem_append_right _ (aat.2 ⟨_,aan hk,rfl⟩)) _).2 ?_;rw[(Yt (h3 _ hc)).1]at h4;have h5:dy (isName s.cells[k].name) s.cells[i].lC=true:=by
  cases e:dy (isName s.cells[k].name) s.cells[i].lC with
  |true=>rfl
  |false=>rw[PX _ e]at h4;cases h4
 refine Db (fun y hy=>?_) h5;unfold isName at hy;rw[aag]at hy;unfold lB;rw[hy.1,hy.2];rfl
theorem JM (hf:s.funcs=[]) {o:List Nat} (ho:Kn.jv g=some o) {i k:Nat} (hi:i<s.cells.length) (hk:k<s.cells.length) (hne:k≠i) (h:((4:Int),s.cells[k].name)∈xL s s.cells[i].name):td o k i:=by
 obtain⟨hr,_,h3,hge⟩:=pH hg;have A:=sS hr;have hnd:∀ j,(g.getD j []).Nodup:=fun j=>by
  by_cases hj:j<s.cells.length
  (·rw[Dc hg hj];exact List.Pairwise.filter _ List.nodup_range);rw[aam,List.getElem?_eq_none (by rw[hge];simpa using hj)];simp
 obtain⟨o1,o2,o3,o4⟩:=Kn.u_ hnd ho;have hlen:g.length=s.cells.length:=(by rw[hge];simp);have hc:=aan hi;(let P:eX→Prop:=fun z=>z.1=4→∃ j,∃ hj:j<s.cells.length,z.2=s.cells[j].name∧(j=i∨td o j i));have hP:P (4,s.cells[k].name):=by
  refine Ti (g_ hc) gp (P:=P) (fun _=>⟨i,hi,rfl,.inl rfl⟩) (fun x y hx hy h4=>?_) h;obtain⟨c,nm⟩:=y;have h4:c=4:=h4;subst h4;unfold EW at hy;by_cases hx4:x.1=4
  ·obtain⟨j,hj,e,hji⟩:=hx hx4;rw[if_pos hx4,e]at hy;have hfind:s.cells.find? (fun c=>c.name==s.cells[j].name)=some s.cells[j]:=ua A.cells (aan hj);rw[hfind]at hy;obtain⟨c1,c2⟩:=MB hy;unfold iN at c1;obtain⟨d,hd,he⟩:=List.any_eq_true.1 c1;obtain⟨m,hm,rfl⟩:=List.getElem_of_mem hd;have he:=eq_of_beq he;refine⟨m,hm,he.symm,.inr ?_⟩;have hmj:m∈g.getD j []:=(mem_row hg hj).2 ⟨hm,by
    have hx:=Yt (h3 _ (aan hj));rw[hf]at hx ⊢;rw[hx.1,PY _ _ aac (TV hx.2.2) hx.2.1,he];exact c2⟩
   obtain⟨v,hv⟩:=List.getElem?_of_mem ((o3 j).2 af);obtain⟨u,hu⟩:=List.getElem?_of_mem (o4 v j hv m hmj);have A_:u<v:=by
    have:=(List.getElem?_eq_some_iff.1 hu).1;rw[aaq]at this;omega
   rw[List.getElem?_take_of_lt A_]at hu;have ha:td o m j:=⟨u,v,A_,hu,hv⟩;rcases hji with rfl|hji
   (·exact ha);exact ha.trans o1 hji
  rw[if_neg hx4,hf]at hy;by_cases hx3:x.1=3
  (·rw[if_pos hx3]at hy;cases hy);rw[if_neg hx3]at hy;cases hy
 obtain⟨j,hj,e,hji⟩:=hP rfl;have hjk:k=j:=by
  have hn:=A.cells;have h1:(s.cells.map (·.name))[k]' bR=(s.cells.map (·.name))[j]' bS:=(by simpa using e);exact Er hn _ _ h1
 subst hjk;exact hji.resolve_left hne
end
end
end Ln
namespace Ck
open Go.Proofs.YtfppbjfnllhgcaaGreat Kb Sh
section
structure nN where
 truth:Bool
 jQ:List Int
deriving DecidableEq
def zT:nN:=⟨false,eH⟩
def oq (d:List Int):nN:=⟨false,d⟩
def MC:nN:=⟨true,eH⟩
abbrev fC:=ByteArray×List Int
def iR (l:List fC) (nm:ByteArray):Option (List Int):=(l.reverse.find? fun v=>v.1==nm).map (·.2)
theorem vq (l:List fC) (v:fC) (nm:ByteArray):iR (l++[v]) nm=if nm=v.1 then some v.2 else iR l nm:=by
 unfold iR;rw[List.reverse_append,List.reverse_singleton,List.singleton_append,List.find?_cons];by_cases e:nm=v.1
 (·subst e;simp);(have:(v.1==nm)=false:=by rw[beq_eq_false_iff_ne];exact fun h=>e h.symm);rw[this,if_neg e]
def um:List ByteArray→List ByteArray→Nat
 |_,[]=>0
 |seen,x :: l=>(if x∈seen then 0 else 1)+um (x :: seen) l
def MD (v:fC):Bool:=dW v.1&&dL v.2
def PZ (vs:List fC) (t:dX):Bool:=cQ t.unit&&(iR vs t.name).isNone&&gD t&& !rG t.name
def jk (ts:List dX):List fC:=ts.map fun t=>(t.name,iw t.unit)
def wZ (vs:List fC) (ts:List dX):Bool:=vs.all MD&&ts.all (PZ vs)&&um [] (vs.map (·.1))==vs.length&&um [] (ts.map (·.name))==ts.length
def uG (vs:List fC) (op:Int) (u nm:ByteArray):Int×nN:=
 if op=1 then match iR vs nm with
  |none=>(11,zT)
  |some d=>(0,oq d)
 else if(jK u).1=0 then(0,oq (iw u))else(14,zT)
def w_ (ts:List fC) (nm:ByteArray) (key:nN):Int×nN:=
 match iR ts nm with
 |none=>(11,zT)
 |some d=>if key.truth then(13,zT)else if key.jQ=eH then(0,oq d)else(14,zT)
def jU (a b r:nN):Int×nN:=if a.truth||b.truth then(13,zT)else if a.jQ=b.jQ then(0,r)else(14,zT)
def addD (a b:List Int):List Int:=(aav 6).map fun i=>a.getD i 0+b.getD i 0
def subD (a b:List Int):List Int:=(aav 6).map fun i=>a.getD i 0 - b.getD i 0
def lZ (div:Bool) (a b:List Int):Int×List Int:=
 if dL a&&dL b then
  (if dL (if div then subD a b else addD a b)then(0,if div then subD a b else addD a b)else(3,eH))
 else(1,eH)
def xe (op:Int) (a b:nN):Int×nN:=
 if a.truth||b.truth then(13,zT)else if(lZ (op==9) a.jQ b.jQ).1=0 then(0,oq (lZ (op==9) a.jQ b.jQ).2)else(14,zT)
def rz (args:List nN):Int×nN:=if args.any fun t=> !t.truth then(13,zT)else(0,MC)
def jM (ts:List fC) (op:Int) (nm:ByteArray) (args:List nN):Int×nN:=
 if op=2 then w_ ts nm (args.getD 0 zT)
 else if op=6∨op=7∨op=10∨op=11 then jU (args.getD 0 zT) (args.getD 1 zT) (args.getD 0 zT)
 else if op=12∨op=13 then jU (args.getD 0 zT) (args.getD 1 zT) MC
 else if op=8∨op=9 then xe op (args.getD 0 zT) (args.getD 1 zT)
 else if op=5 then(if(args.getD 0 zT).truth then jU (args.getD 1 zT) (args.getD 2 zT) (args.getD 1 zT)else(13,zT))
 else rz args
mutual
def xh (vs ts:List fC):cw→Int×nN
 | .mk op n u nm l=>match l with
  |[]=>uG vs op u nm
  |x :: r=>match Aj vs ts (x :: r)with
   | .inl e=>(e,zT)
   | .inr args=>jM ts op nm args
def Aj (vs ts:List fC):List cw→Int ⊕ List nN
 |[]=> .inr []
 |x :: l=>match xh vs ts x with
  |(e,t)=>if e=0 then(match Aj vs ts l with
   | .inl e=> .inl e
   | .inr args=> .inr (t :: args))else .inl e
end
def pT (x:cw):Bool:=dy (fun y=>y.op==3) x
def jh (vs:List fC) (tabs:List dX) (x:cw):Int×nN:=
 if eZ x=false∨pT x=true then(2,zT)else if wZ vs tabs then xh vs (jk tabs) x else(1,zT)
section
variable (X:cw→Int×cw) (fs:List cK) (tabs:List dX)
def rQ (vs:List fC) (x:cw):Int×List Int:=
 if(X x).1=0 then
  (if(jh vs tabs (X x).2).1=0∧(jh vs tabs (X x).2).2.truth=true then 13 else(jh vs tabs (X x).2).1,(jh vs tabs (X x).2).2.jQ)
 else((X x).1,eH)
def ME (vs:List fC) (u:ByteArray) (y:cw):Int:=
 if(rQ X tabs vs y).1=0∧¬(rQ X tabs vs y).2=iw u then 14 else(rQ X tabs vs y).1
def jV (vs:List fC):List eR→List cw→Int
 |p :: ps,y :: l=>if ME X tabs vs p.unit y=0 then jV vs ps l else ME X tabs vs p.unit y
 |_,_=>0
mutual
def oG (vs:List fC):cw→Int
 | .mk op n u nm l=>
  if op=3∧¬jV X tabs vs ((fs[(findF fs nm).toNat]?).elim [] (·.params)) l=0 then jV X tabs vs ((fs[(findF fs nm).toNat]?).elim [] (·.params)) l
  else kZ vs l
def kZ (vs:List fC):List cw→Int
 |[]=>0
 |y :: l=>if oG vs y=0 then kZ vs l else oG vs y
end
def ji (vs:List fC) (x:cw):Int×List Int:=
 if ¬(X x).1=0 then((X x).1,eH)else if ¬oG X fs tabs vs x=0 then(oG X fs tabs vs x,eH)else rQ X tabs vs x
def GJ (f:cK):List fC:=f.params.map fun p=>(p.name,iw p.unit)
def nO:List cK→Int
 |[]=>0
 |f :: l=>if(ji X fs tabs (GJ f) f.body).1=0 then nO l else(ji X fs tabs (GJ f) f.body).1
def Ak (vs:List fC) (c:fH):Int:=
 if(ji X fs tabs vs c.lC).1=0∧¬(ji X fs tabs vs c.lC).2=iw c.unit then 14 else(ji X fs tabs vs c.lC).1
def ic (vs:List fC):List fH→Int
 |[]=>0
 |c :: l=>if Ak X fs tabs vs c=0 then ic vs l else Ak X fs tabs vs c
end
def l9 (s:cL):List fC:=s.inputs.map (fun x=>(x.name,iw x.unit))++s.cells.map fun x=>(x.name,iw x.unit)
mutual
def JN (w:ByteArray→Option Int):cw→Int
 | .mk op n u nm l=>wL w (if op=0∨op=2 then 1 else if op=1 then(w nm).getD 1 else 0) l
def wL (w:ByteArray→Option Int) (out:Int):List cw→Int
 |[]=>out
 |y :: l=>wL w (min (out+JN w y) 101) l
end
def Dd (X:cw→Int×cw) (cells:List fH) (w:ByteArray→Option Int):List Nat→Bool
 |[]=>false
 |i :: l=>match cells[i]? with
  |none=>false
  |some c=>decide (100<JN w (X c.lC).2)||Dd X cells (fun nm=>if nm=c.name then some (JN w (X c.lC).2)else w nm) l
def GK (X:cw→Int×cw) (o:Int×List Nat) (s:cL):Int:=
 if fQ s=false then 2
 else if ¬gO s.funcs=0 then gO s.funcs
 else if ¬nO X s.funcs s.tables s.funcs=0 then nO X s.funcs s.tables s.funcs
 else if ¬ic X s.funcs s.tables (l9 s) s.cells=0 then ic X s.funcs s.tables (l9 s) s.cells
 else if ¬o.1=0 then o.1
 else if Dd X s.cells (fun _=>none) o.2 then 6 else 0
noncomputable def iB (s:cL):Int:=GK (fP s.funcs (pR s.funcs)) (gG s) s
theorem th {s:cL} (h:iB s=0):fQ s=true∧gO s.funcs=0∧∃ g,jg s=some g∧Kn.jv g=some (gG s).2:=by
 unfold iB GK at h;split at h
 (·cases h);next h1=>
 split at h
 (·(next h2=>exact absurd h h2));next h2=>
 split at h
 (·(next h3=>exact absurd h h3));split at h
 (·(next h4=>exact absurd h h4));split at h
 (·(next h5=>exact absurd h h5));next h5=>
 have h5:(gG s).1=0:=Classical.not_not.1 h5;refine⟨by simpa using h1,Classical.not_not.1 h2,?_⟩;unfold gG at h5 ⊢;cases hg:jg s with
 |none=>rw[hg]at h5;cases h5
 |some g=>
  rw[hg]at h5;dsimp only at h5 ⊢;cases ho:Kn.jv g with
  |none=>rw[ho]at h5;cases h5
  |some l=>exact⟨g,rfl,by rw[ho]⟩
theorem P0 {fs:List cK} {G G':Nat→cV} (h:∀ i,i<fs.length→G i=G' i) (x:cw):fP fs G x=fP fs G' x:=by
 unfold fP;by_cases hu:dy (jG fs) x=true
 (·rw[if_pos hu,if_pos hu]);rw[if_neg hu,if_neg hu,qY _ x aac fun j hj=>h j (sQ _ x aac (by simpa using hu) j hj)]
end
end Ck
namespace Go.Proofs.YtfppbjfnllhgcaaGreat
section
open Go Go.RowKit Bg Go.Proofs Sh Kb Ck
theorem cN.row_ {w:World} {g:Nat} {t:TypeId} {old:List Value} (h:cN w g t old) (cs:List Value):cN (w.setRow g cs.toArray) g t cs:=by
 unfold cN World.setRow at*;show(w.heap.modify g _)[g]? =_;rw[Array.getElem?_modify,if_pos rfl,h];rfl
theorem xq (w:World) (g:Nat) (cs:Array Value):w.grownBy (w.setRow g cs) (some g):=
 ⟨rfl,rfl,rfl,by unfold World.setRow;show _≤(w.heap.modify g _).size;rw[Array.size_modify];exact aaB _,fun i hi hne=>by
  unfold World.setRow;show(w.heap.modify g _)[i]? =_;rw[Array.getElem?_modify,if_neg (fun e=>hne (by rw[e]))]⟩
theorem cO {P:Program} {ops:Array Oper} {rest:List Oper} {o:Oper} {a:Act} {w:World} {Q:Exit→Act→World→Prop} (hgd:o.guard=none) (ty:TypeId) (x y:Operand) (ho:o.op= .store ty x y)
 (g:Nat) (cells:List Value) (hx:a.eval x= .pointer (bY g 0)) (hy:a.eval y= .agg cells.toArray)
 (t:TypeId) {old:List Value} (hg:cN w g t old) (hi:(P.info? ty).map (·.size)=some cells.length) (hold:old.length=cells.length) (h1:cells.all (·.oneCell')=true)
 (h:∀ w',Hid (cN w' g t cells)→w.grownBy w' (some g)→wpList P ops Q rest (a.put o.dst undef) w'):wpList P ops Q (o :: rest) a w:=
 wpList_store_row hgd ty x y ho g cells.toArray hx hy t old.toArray hg aW (by simpa using hold) aF (h _ (aa (cN.row_ hg cells)) (xq _ _ _))
theorem cM {P:Program} {fn:Func} {p q:Tmp} {ty:TypeId} (h:fn.results=#[.cell p ty,.tmp q]) (tmps:Array Value) (w:World) (g:Nat) (t:TypeId) (cs:List Value) (d:TypeDesc) (v:Value) (hp:tmps.getD p undef= .pointer (some ⟨g,0,none⟩)) (hv:tmps.getD q undef=v) (hg:cN w g t cs) (hu:P.underlying ty=some d) (hd:(match d with| .struct _| .array _ _=>true|_=>false)=true) (hi:(P.info? ty).map (·.size)=some cs.length):(results fn tmps).run P w= .ok (.tuple #[.agg cs.toArray,v]) w:=by
 have hp':tmps[p]?.getD undef= .pointer (bY g 0):=(by simpa using hp);have hv':tmps[q]?.getD undef=v:=(by simpa using hv);simp[results,h,hp',hv',asAddr,run_loadVar_row w g t ty cs.toArray (0,0) d hg hu hd aW]
def ig (d:List Int):List Value:=[bU (d.getD 0 0),bU (d.getD 1 0),bU (d.getD 2 0),bU (d.getD 3 0),bU (d.getD 4 0),bU (d.getD 5 0)]
theorem six {d:List Int} (h:d.length=6):∃ d0 d1 d2 d3 d4 d5,d=[d0,d1,d2,d3,d4,d5]:=by
 match d,h with
 |[d0,d1,d2,d3,d4,d5],_=>exact⟨d0,d1,d2,d3,d4,d5,rfl⟩
theorem pI {d0 d1 d2 d3 d4 d5:Int} (h:dL [d0,d1,d2,d3,d4,d5]=true):(-9≤d0∧d0≤9)∧(-9≤d1∧d1≤9)∧(-9≤d2∧d2≤9)∧(-9≤d3∧d3≤9)∧(-9≤d4∧d4≤9)∧(-9≤d5∧d5≤9):=by
 unfold dL at h;simp at h;omega
def TX (g:Nat) (lb:Array Value) (f:Nat→Int) (w:World):Prop:=∀ (W:World) (k:Nat),k<6→Below w w W→Calls prog g (#[bU (k:Int)]++lb) W fun e W'=>e= .returned (bU (f k))∧∃ n,W'=W.drewN n
theorem MF:∀ args w,(callFunc 315 args).run prog w= .ok (.enter 315 args) w:=enters_of func315 ah rfl
theorem MG:∀ args w,(callFunc 316 args).run prog w= .ok (.enter 316 args) w:=enters_of func316 ah rfl
theorem TY (a0 a1 a2 a3 a4 a5 b0 b1 b2 b3 b4 b5:Int) (p q:Nat) (w:World) (ha:cN w p 91 [bU a0,bU a1,bU a2,bU a3,bU a4,bU a5]) (hb:cN w q 91 [bU b0,bU b1,bU b2,bU b3,bU b4,bU b5])
 (h1:dL [a0,a1,a2,a3,a4,a5]=true) (h2:dL [b0,b1,b2,b3,b4,b5]=true):TX 315 #[.pointer (bY p 0),.pointer (bY q 0)] (fun k=>[a0,a1,a2,a3,a4,a5].getD k 0+[b0,b1,b2,b3,b4,b5].getD k 0) w:=fun W k hk hB=>by
 have hb1:=pI h1
 have hb2:=pI h2
 have y:=(ha.bZ hB ha.lt).cell
 have z:=(hb.bZ hB hb.lt).cell
 clear ha hb h1 h2
 have hk2:k=0∨k=1∨k=2∨k=3∨k=4∨k=5:=by omega
 rcases hk2 with rfl|rfl|rfl|rfl|rfl|rfl
 all_goals
  go_enter func315,ntmps315
  go_wp2_with fail
  go_quiet (fail)
  go_wp2_with fail
  go_ret
  exact⟨rfl,nq,rfl⟩
theorem TZ (a0 a1 a2 a3 a4 a5 b0 b1 b2 b3 b4 b5:Int) (p q:Nat) (w:World) (ha:cN w p 91 [bU a0,bU a1,bU a2,bU a3,bU a4,bU a5]) (hb:cN w q 91 [bU b0,bU b1,bU b2,bU b3,bU b4,bU b5])
 (h1:dL [a0,a1,a2,a3,a4,a5]=true) (h2:dL [b0,b1,b2,b3,b4,b5]=true):TX 316 #[.pointer (bY p 0),.pointer (bY q 0)] (fun k=>[a0,a1,a2,a3,a4,a5].getD k 0 - [b0,b1,b2,b3,b4,b5].getD k 0) w:=fun W k hk hB=>by
 have hb1:=pI h1
 have hb2:=pI h2
 have y:=(ha.bZ hB ha.lt).cell
 have z:=(hb.bZ hB hb.lt).cell
 clear ha hb h1 h2
 have hk2:k=0∨k=1∨k=2∨k=3∨k=4∨k=5:=by omega
 rcases hk2 with rfl|rfl|rfl|rfl|rfl|rfl
 all_goals
  go_enter func316,ntmps316
  go_wp2_with fail
  go_quiet (fail)
  go_wp2_with fail
  go_ret
  exact⟨rfl,nq,rfl⟩
def tj (r:Int×List Int) (w:World) (e:Ending) (w':World):Prop:=e= .returned (.tuple #[.agg (ig r.2).toArray,bU r.1])∧Below w w w'
def Yu (f:Nat→Int):List Int:=[f 0,f 1,f 2,f 3,f 4,f 5]
def E7 (f:Nat→Int):Int×List Int:=if dL (Yu f)then(0,Yu f)else(3,eH)
def Xh (f:Nat→Int) (k:Nat):List Value:=(aav 6).map fun i=> bU (if i<k then f i else 0)
theorem T4 {f:Nat→Int} {k:Nat} (h:k<6):(Xh f k).set k (bU (f k))=Xh f (k+1):=by
 (have:k=0∨k=1∨k=2∨k=3∨k=4∨k=5:=by omega);rcases this with rfl|rfl|rfl|rfl|rfl|rfl<;>rfl
theorem cC {B:Nat} {w0 w w':World} {g:Nat} (h:Below B w0 w) (k:w.grownBy w' (some g)) (hB:B≤w0.heap.size) (hg:B≤g):Below B w0 w':=h.grown k (aaC hB h.size) fun j e=>by cases e;exact hg
theorem De (w:World) (c0 c1:List Value) (t0 t1:TypeId):∃ W,((w.alloc (.cells c0.toArray t0)).alloc (.cells c1.toArray t1))=W∧Hid (cN W w t0 c0)∧Hid (cN W (w+1) t1 c1)∧Hid (Below w w W):=by
 have k0:cN (w.alloc (.cells c0.toArray t0)) w t0 c0:=heap_alloc_new w _;have k1:cN ((w.alloc (.cells c0.toArray t0)).alloc (.cells c1.toArray t1)) (w+1) t1 c1:=by
  have:=heap_alloc_new (w.alloc (.cells c0.toArray t0)) (.cells c1.toArray t1)
  rwa [aaI]at this
 refine⟨_,rfl,aa (k0.alloc _),aa k1,aa ?_⟩;refine(cS _).alloc ?_ _;rw[aaI];omega
theorem oH (w:World) (c0 c1 c2:List Value) (t0 t1 t2:TypeId):∃ W,(((w.alloc (.cells c0.toArray t0)).alloc (.cells c1.toArray t1)).alloc (.cells c2.toArray t2))=W∧Hid (cN W w t0 c0)∧Hid (cN W (w+1) t1 c1)∧Hid (cN W (w+1+1) t2 c2)∧Hid (Below w w W):=by
 obtain⟨W,rfl,k0,k1,kb⟩:=De w c0 c1 t0 t1;have k2:=heap_alloc_new ((w.alloc (.cells c0.toArray t0)).alloc (.cells c1.toArray t1)) (.cells c2.toArray t2);rw[aaI,aaI]at k2;exact⟨_,rfl,aa (k0.o.alloc _),aa (k1.o.alloc _),aa k2,aa (kb.o.alloc kb.o.size _)⟩
theorem T5 (w:World) (c0 c1 c2 c3:List Value) (t0 t1 t2 t3:TypeId):∃ W,((((w.alloc (.cells c0.toArray t0)).alloc (.cells c1.toArray t1)).alloc (.cells c2.toArray t2)).alloc (.cells c3.toArray t3))=W∧Hid (cN W w t0 c0)∧Hid (cN W (w+1) t1 c1)∧Hid (cN W (w+1+1) t2 c2)∧Hid (cN W (w+1+1+1) t3 c3)∧Hid (Below w w W):=by
 obtain⟨W,rfl,k0,k1,k2,kb⟩:=oH w c0 c1 c2 t0 t1 t2;have k3:=heap_alloc_new (((w.alloc (.cells c0.toArray t0)).alloc (.cells c1.toArray t1)).alloc (.cells c2.toArray t2)) (.cells c3.toArray t3);rw[aaI,aaI,aaI]at k3;exact⟨_,rfl,aa (k0.o.alloc _),aa (k1.o.alloc _),aa (k2.o.alloc _),aa k3,aa (kb.o.alloc kb.o.size _)⟩
theorem fE:(Tryz.prog.info? 91).map (·.size)=some 6:=by kernel_rfl
theorem JO (g:Nat) (lb:Array Value) (f:Nat→Int) (w:World) (eg:∀ args w,(callFunc g args).run prog w= .ok (.enter g args) w) (hf:TX g lb f w):Calls prog 314 #[.func (.func g) #[] lb] w (tj (E7 f) w):=by
 have HF:=aa hf
 generalize hP:tj (E7 f) w=P
 have HP:=aa (show ∀ e w',tj (E7 f) w e w'→P e w' from fun e w' h=>hP▸h)
 clear hP hf
 go_enter func314,ntmps314
 go_upto_region 2 with fail
 obtain⟨w2,hw2,K0,K1,HB⟩:=De w [.int .i64 0,.int .i64 0,.int .i64 0,.int .i64 0,.int .i64 0,.int .i64 0] [.int .i64 0,.int .i64 0,.int .i64 0,.int .i64 0,.int .i64 0,.int .i64 0] 91 91
 rw[hw2]
 clear hw2
 replace K1:=aa (show cN w2 (w+1) 91 (Xh f 0)from K1.o)
 obtain⟨p,hp⟩:∃ p,p=w.heap.size:=⟨_,rfl⟩
 have xN:=aa hp
 rw[← hp]at K0 K1 ⊢
 clear hp
 go_wp2_with fail
 go_loopw [6] (fun v wr=>∃ k:Nat,k≤6∧v=bU (k:Int)∧Hid (cN wr (p+1) 91 (Xh f k))∧Hid (cN wr p 91 [bU 0,bU 0,bU 0,bU 0,bU 0,bU 0])∧Hid (Below w w wr)) (fun v _=>6 - (intOf v).toNat)
 case atStart=>exact⟨0,by omega,rfl,K1,K0,HB⟩
 case round=>
  clear K0 K1 HB;obtain⟨k,hk,rfl,K1,K0,HB⟩:=hrel;by_cases hlt:k<6;case pos=>
   have HC:=aa (HF.o wr k hlt HB.o);have HM:=aa (T4 (f:=f) hlt);have hl:=K1.o.lt;have c1:b_ wr (p+1) k (bU 0):=by
    rw[K1.o.cell];(have:k=0∨k=1∨k=2∨k=3∨k=4∨k=5:=by omega);rcases this with rfl|rfl|rfl|rfl|rfl|rfl<;>rfl
   have f1:wr.frozen? (bY (p+1) k)=false:=K1.o.frozen k;generalize f k=y at HC HM;go_wp2_with (refine HC.o.mono ?_;rintro e w3 ⟨rfl,n3,rfl⟩);go_roundw;exact⟨k+1,by omega,rfl,aa (by have:=(K1.o.drewN n3).ez k (bU y);rwa [HM.o]at this),aa ((aae _ _ _ _ (by show p≠p+1;omega)).trans (K0.o.drewN n3)),aa ((below_drewN HB.o n3).setCell (p:=bY (p+1) k) (by show w.heap.size≤p+1;have:=xN.o;omega) _)⟩;simp[intOf];omega
  case neg=>
   obtain rfl:k=6:=by omega
   replace K1:=aa (show cN wr (p+1) 91 [bU (f 0),bU (f 1),bU (f 2),bU (f 3),bU (f 4),bU (f 5)]from K1.o)
   have HR:Hid (E7 f=if dL [f 0,f 1,f 2,f 3,f 4,f 5]then(0,[f 0,f 1,f 2,f 3,f 4,f 5])else(3,eH)):=aa rfl
   generalize E7 f=r at HR HP
   generalize f 0=y0 at K1 HR
   generalize f 1=y1 at K1 HR
   generalize f 2=y2 at K1 HR
   generalize f 3=y3 at K1 HR
   generalize f 4=y4 at K1 HR
   generalize f 5=y5 at K1 HR
   have HC:=aa (fun W=>mF y0 y1 y2 y3 y4 y5 W)
   have x1:=K1.o.cell
   cases hd:dL [y0,y1,y2,y3,y4,y5]
   case false=>
    have HE:=aa (show r=(3,eH) by rw[HR.o,hd];rfl);rw[hd]at HC;clear hd hlt hk;go_wp2_with (first|(go_at_call 140;refine(HC.o _).mono ?_;rintro e w3 ⟨rfl,hb3⟩;have K3:=aa (K0.o.bZ hb3 K0.o.lt);have eE:=aa (HB.o.trans (hb3.mono HB.o.size));clear hb3 x1)|(refine cO rfl _ _ _ rfl _ _ rfl rfl _ K3.o fE rfl rfl ?_;intro w5 K5 gj));exact bodyPost_ret (cM rfl _ _ _ 91 _ _ _ rfl rfl K5.o underlying91 rfl fE) rfl (HP.o _ _ ⟨by rw[HE.o];rfl,cC eE.o gj aac aZ⟩)
   case true=>
    have HE:=aa (show r=(0,[y0,y1,y2,y3,y4,y5]) by rw[HR.o,hd];rfl);rw[hd]at HC;clear hd hlt hk;go_wp2_with (first|(go_at_call 140;refine(HC.o _).mono ?_;rintro e w3 ⟨rfl,hb3⟩;have K3:=aa (K0.o.bZ hb3 K0.o.lt);have eE:=aa (HB.o.trans (hb3.mono HB.o.size));have x3:=(K1.o.bZ hb3 K1.o.lt).cell;clear hb3 x1)|(refine cO rfl _ _ _ rfl _ _ rfl rfl _ K3.o fE rfl rfl ?_;intro w5 K5 gj));exact bodyPost_ret (cM rfl _ _ _ 91 _ _ _ rfl rfl K5.o underlying91 rfl fE) rfl (HP.o _ _ ⟨by rw[HE.o];rfl,cC eE.o gj aac aZ⟩)
theorem E8 (div:Bool) (a0 a1 a2 a3 a4 a5 b0 b1 b2 b3 b4 b5:Int) (h1:dL [a0,a1,a2,a3,a4,a5]=true) (h2:dL [b0,b1,b2,b3,b4,b5]=true):lZ div [a0,a1,a2,a3,a4,a5] [b0,b1,b2,b3,b4,b5]=E7 (if div then fun k=>[a0,a1,a2,a3,a4,a5].getD k 0 - [b0,b1,b2,b3,b4,b5].getD k 0 else fun k=>[a0,a1,a2,a3,a4,a5].getD k 0+[b0,b1,b2,b3,b4,b5].getD k 0):=by
 unfold lZ;rw[h1,h2];cases div<;>rfl
theorem Xi (a b:List Int) (w:World) (ha:a.length=6) (hb:b.length=6):Calls prog 302 #[.agg (ig a).toArray,.agg (ig b).toArray] w (tj (lZ false a b) w):=by
 obtain⟨a0,a1,a2,a3,a4,a5,rfl⟩:=six ha;obtain⟨b0,b1,b2,b3,b4,b5,rfl⟩:=six hb;clear ha hb;have HJ:=aa (E8 false a0 a1 a2 a3 a4 a5 b0 b1 b2 b3 b4 b5);have Xj:Hid (dL [a0,a1,a2,a3,a4,a5]=false∨dL [b0,b1,b2,b3,b4,b5]=false→lZ false [a0,a1,a2,a3,a4,a5] [b0,b1,b2,b3,b4,b5]=(1,eH)):=aa fun h=>by
  unfold lZ;rcases h with h|h<;>simp[h]
 generalize lZ false [a0,a1,a2,a3,a4,a5] [b0,b1,b2,b3,b4,b5]=r at HJ Xj ⊢;generalize hP:tj r w=P;have HP:=aa (show ∀ e w',tj r w e w'→P e w' from fun e w' h=>hP▸h);clear hP;have HM:=aa (fun p q W (hp:cN W p 91 [.int .i64 a0,.int .i64 a1,.int .i64 a2,.int .i64 a3,.int .i64 a4,.int .i64 a5]) hq h1 h2=>JO 315 #[.pointer (bY p 0),.pointer (bY q 0)] _ W MF (TY a0 a1 a2 a3 a4 a5 b0 b1 b2 b3 b4 b5 p q W hp hq h1 h2));have H1:=aa (fun W=>mF a0 a1 a2 a3 a4 a5 W);have H2:=aa (fun W=>mF b0 b1 b2 b3 b4 b5 W);simp only[ig,aal,aak];go_enter func302,ntmps302;go_upto_region 1 with fail;obtain⟨w1,hw1,K0,K1,K2,HB⟩:=oH w [.int .i64 a0,.int .i64 a1,.int .i64 a2,.int .i64 a3,.int .i64 a4,.int .i64 a5] [.int .i64 b0,.int .i64 b1,.int .i64 b2,.int .i64 b3,.int .i64 b4,.int .i64 b5] [.int .i64 0,.int .i64 0,.int .i64 0,.int .i64 0,.int .i64 0,.int .i64 0] 91 91 91;rw[hw1];clear hw1;have x0:=K0.o.cell;cases h1:dL [a0,a1,a2,a3,a4,a5];(case false=>have HE:=aa (Xj.o (.inl h1));rw[h1]at H1;clear h1;go_wp2_with (first|(go_at_call 140;with_reducible refine(H1.o _).mono ?_;rintro e w3 ⟨rfl,hb3⟩;have K3:=aa (K2.o.bZ hb3 K2.o.lt);have eE:=aa (HB.o.trans (hb3.mono HB.o.size));clear hb3 x0)|(refine cO rfl _ _ _ rfl _ _ rfl rfl _ K3.o fE rfl rfl ?_;intro w5 K5 gj));exact bodyPost_ret (cM rfl _ _ _ 91 _ _ _ rfl rfl K5.o underlying91 rfl fE) rfl (HP.o _ _ ⟨by rw[HE.o];rfl,cC eE.o gj aac af⟩));have Es:=aa h1;rw[h1]at H1;clear h1;cases h2:dL [b0,b1,b2,b3,b4,b5];(case false=>have HE:=aa (Xj.o (.inr h2));rw[h2]at H2;clear h2;go_wp2_with (first|(go_at_call 140;with_reducible refine(H1.o _).mono ?_;rintro e w3 ⟨rfl,hb3⟩;have K3:=aa (K2.o.bZ hb3 K2.o.lt);have x3:=(K1.o.bZ hb3 K1.o.lt).cell;have eE:=aa (HB.o.trans (hb3.mono HB.o.size));clear hb3 x0)|(go_at_call 140;with_reducible refine(H2.o _).mono ?_;rintro e w4 ⟨rfl,hb4⟩;have K4:=aa (K3.o.bZ hb4 K3.o.lt);have gz:=aa (eE.o.trans (hb4.mono eE.o.size));clear hb4 x3)|(refine cO rfl _ _ _ rfl _ _ rfl rfl _ K4.o fE rfl rfl ?_;intro w5 K5 gj));exact bodyPost_ret (cM rfl _ _ _ 91 _ _ _ rfl rfl K5.o underlying91 rfl fE) rfl (HP.o _ _ ⟨by rw[HE.o];rfl,cC gz.o gj aac af⟩));have HE:=aa (HJ.o Es.o h2);have HMM:=aa (fun p q W hp hq=>HM.o p q W hp hq Es.o h2);simp only[Bool.false_eq_true,if_false,if_true]at HE;rw[← HE.o]at HMM;rw[h2]at H2;clear h2 HE HJ Xj;go_wp2_with (first|(go_at_call 140;with_reducible refine(H1.o _).mono ?_;rintro e w3 ⟨rfl,hb3⟩;have K3:=aa (K2.o.bZ hb3 K2.o.lt);have P3:=aa (K0.o.bZ hb3 K0.o.lt);have MH:=aa (K1.o.bZ hb3 K1.o.lt);have x3:=MH.o.cell;have eE:=aa (HB.o.trans (hb3.mono HB.o.size));clear hb3 x0)|(go_at_call 140;with_reducible refine(H2.o _).mono ?_;rintro e w4 ⟨rfl,hb4⟩;have K4:=aa (K3.o.bZ hb4 K3.o.lt);have K04:=aa (P3.o.bZ hb4 P3.o.lt);have K14:=aa (MH.o.bZ hb4 MH.o.lt);have gz:=aa (eE.o.trans (hb4.mono eE.o.size));clear hb4 x3)|(go_at_call 314;refine(HMM.o _ _ _ K04.o K14.o).mono ?_;rintro e w6 ⟨rfl,eM⟩;have K6:=aa (K4.o.bZ eM K4.o.lt);have eo:=aa (gz.o.trans (eM.mono gz.o.size));clear eM)|(refine cO rfl _ _ _ rfl _ _ rfl rfl _ K6.o fE rfl rfl ?_;intro w5 K5 gj));exact bodyPost_ret (cM rfl _ _ _ 91 _ _ _ rfl rfl K5.o underlying91 rfl fE) rfl (HP.o _ _ ⟨rfl,cC eo.o gj aac af⟩)
theorem Xk (a b:List Int) (w:World) (ha:a.length=6) (hb:b.length=6):Calls prog 303 #[.agg (ig a).toArray,.agg (ig b).toArray] w (tj (lZ true a b) w):=by
 obtain⟨a0,a1,a2,a3,a4,a5,rfl⟩:=six ha;obtain⟨b0,b1,b2,b3,b4,b5,rfl⟩:=six hb;clear ha hb;have HJ:=aa (E8 true a0 a1 a2 a3 a4 a5 b0 b1 b2 b3 b4 b5);have Xj:Hid (dL [a0,a1,a2,a3,a4,a5]=false∨dL [b0,b1,b2,b3,b4,b5]=false→lZ true [a0,a1,a2,a3,a4,a5] [b0,b1,b2,b3,b4,b5]=(1,eH)):=aa fun h=>by
  unfold lZ;rcases h with h|h<;>simp[h]
 generalize lZ true [a0,a1,a2,a3,a4,a5] [b0,b1,b2,b3,b4,b5]=r at HJ Xj ⊢;generalize hP:tj r w=P;have HP:=aa (show ∀ e w',tj r w e w'→P e w' from fun e w' h=>hP▸h);clear hP;have HM:=aa (fun p q W (hp:cN W p 91 [.int .i64 a0,.int .i64 a1,.int .i64 a2,.int .i64 a3,.int .i64 a4,.int .i64 a5]) hq h1 h2=>JO 316 #[.pointer (bY p 0),.pointer (bY q 0)] _ W MG (TZ a0 a1 a2 a3 a4 a5 b0 b1 b2 b3 b4 b5 p q W hp hq h1 h2));have H1:=aa (fun W=>mF a0 a1 a2 a3 a4 a5 W);have H2:=aa (fun W=>mF b0 b1 b2 b3 b4 b5 W);simp only[ig,aal,aak];go_enter func303,ntmps303;go_upto_region 1 with fail;obtain⟨w1,hw1,K0,K1,K2,HB⟩:=oH w [.int .i64 a0,.int .i64 a1,.int .i64 a2,.int .i64 a3,.int .i64 a4,.int .i64 a5] [.int .i64 b0,.int .i64 b1,.int .i64 b2,.int .i64 b3,.int .i64 b4,.int .i64 b5] [.int .i64 0,.int .i64 0,.int .i64 0,.int .i64 0,.int .i64 0,.int .i64 0] 91 91 91;rw[hw1];clear hw1;have x0:=K0.o.cell;cases h1:dL [a0,a1,a2,a3,a4,a5];(case false=>have HE:=aa (Xj.o (.inl h1));rw[h1]at H1;clear h1;go_wp2_with (first|(go_at_call 140;with_reducible refine(H1.o _).mono ?_;rintro e w3 ⟨rfl,hb3⟩;have K3:=aa (K2.o.bZ hb3 K2.o.lt);have eE:=aa (HB.o.trans (hb3.mono HB.o.size));clear hb3 x0)|(refine cO rfl _ _ _ rfl _ _ rfl rfl _ K3.o fE rfl rfl ?_;intro w5 K5 gj));exact bodyPost_ret (cM rfl _ _ _ 91 _ _ _ rfl rfl K5.o underlying91 rfl fE) rfl (HP.o _ _ ⟨by rw[HE.o];rfl,cC eE.o gj aac af⟩));have Es:=aa h1;rw[h1]at H1;clear h1;cases h2:dL [b0,b1,b2,b3,b4,b5];(case false=>have HE:=aa (Xj.o (.inr h2));rw[h2]at H2;clear h2;go_wp2_with (first|(go_at_call 140;with_reducible refine(H1.o _).mono ?_;rintro e w3 ⟨rfl,hb3⟩;have K3:=aa (K2.o.bZ hb3 K2.o.lt);have x3:=(K1.o.bZ hb3 K1.o.lt).cell;have eE:=aa (HB.o.trans (hb3.mono HB.o.size));clear hb3 x0)|(go_at_call 140;with_reducible refine(H2.o _).mono ?_;rintro e w4 ⟨rfl,hb4⟩;have K4:=aa (K3.o.bZ hb4 K3.o.lt);have gz:=aa (eE.o.trans (hb4.mono eE.o.size));clear hb4 x3)|(refine cO rfl _ _ _ rfl _ _ rfl rfl _ K4.o fE rfl rfl ?_;intro w5 K5 gj));exact bodyPost_ret (cM rfl _ _ _ 91 _ _ _ rfl rfl K5.o underlying91 rfl fE) rfl (HP.o _ _ ⟨by rw[HE.o];rfl,cC gz.o gj aac af⟩));have HE:=aa (HJ.o Es.o h2);have HMM:=aa (fun p q W hp hq=>HM.o p q W hp hq Es.o h2);simp only[if_true]at HE;rw[← HE.o]at HMM;rw[h2]at H2;clear h2 HE HJ Xj;go_wp2_with (first|(go_at_call 140;with_reducible refine(H1.o _).mono ?_;rintro e w3 ⟨rfl,hb3⟩;have K3:=aa (K2.o.bZ hb3 K2.o.lt);have P3:=aa (K0.o.bZ hb3 K0.o.lt);have MH:=aa (K1.o.bZ hb3 K1.o.lt);have x3:=MH.o.cell;have eE:=aa (HB.o.trans (hb3.mono HB.o.size));clear hb3 x0)|(go_at_call 140;with_reducible refine(H2.o _).mono ?_;rintro e w4 ⟨rfl,hb4⟩;have K4:=aa (K3.o.bZ hb4 K3.o.lt);have K04:=aa (P3.o.bZ hb4 P3.o.lt);have K14:=aa (MH.o.bZ hb4 MH.o.lt);have gz:=aa (eE.o.trans (hb4.mono eE.o.size));clear hb4 x3)|(go_at_call 314;refine(HMM.o _ _ _ K04.o K14.o).mono ?_;rintro e w6 ⟨rfl,eM⟩;have K6:=aa (K4.o.bZ eM K4.o.lt);have eo:=aa (gz.o.trans (eM.mono gz.o.size));clear eM)|(refine cO rfl _ _ _ rfl _ _ rfl rfl _ K6.o fE rfl rfl ?_;intro w5 K5 gj));exact bodyPost_ret (cM rfl _ _ _ 91 _ _ _ rfl rfl K5.o underlying91 rfl fE) rfl (HP.o _ _ ⟨rfl,cC eo.o gj aac af⟩)
end
open Go Go.RowKit Bg Go.Proofs Sh Kb
theorem GL (w:World) (cs:List Value) (t:TypeId):∃ w1 p,w.alloc (.cells cs.toArray t)=w1∧w.heap.size=p∧Hid (cN w1 p t cs)∧Hid (p+1≤w1.heap.size)∧Hid (Below w w w1)∧Hid (∀ W,Below (p+1) w1 W→Below w w W)∧Hid (p=w.heap.size):=by
 have hb:=(aaf w w).alloc aac (.cells cs.toArray t);have hs:=aaI w (.cells cs.toArray t);exact⟨_,_,rfl,rfl,aa (heap_alloc_new w _),aa af,aa hb,aa fun W h=>hb.trans (h.mono af),aa rfl⟩
theorem uf {w:World} {A:Option Addr} {l:List fH} (h:Sq mX w Any A l) {k:Nat} (hk:k<l.length):∃ bl o eU yn eV eW B9 ny c9,A=bY bl o∧bl<w.heap.size∧b_ w bl (o+k*7) (bV l[k].name)∧b_ w bl (o+k*7+1) (bV l[k].unit)∧b_ w bl (o+k*7+2) (bU eU)∧b_ w bl (o+k*7+3) (bU yn)∧b_ w bl (o+k*7+4) (bV eV)∧b_ w bl (o+k*7+5) (bV eW)∧b_ w bl (o+k*7+6) (bW B9 ny c9)∧cH w Any [bU eU,bU yn,bV eV,bV eW,bW B9 ny c9] l[k].lC:=by
 obtain⟨bl,o,cs,hA,_,hbl,ey,cT⟩:=h.get hk;obtain⟨es,P4,hie⟩:=ey;obtain⟨eU,yn,eV,eW,B9,c9,yr,qX,hes,_⟩:=cH.parts hie;subst hes;subst P4;exact⟨bl,o,eU,yn,eV,eW,B9,yr.length,c9,hA,hbl,cT 0 _ rfl,cT 1 _ rfl,cT 2 _ rfl,cT 3 _ rfl,cT 4 _ rfl,cT 5 _ rfl,cT 6 _ rfl,hie⟩
end Go.Proofs.YtfppbjfnllhgcaaGreat
namespace Ck
open Go.Proofs.YtfppbjfnllhgcaaGreat Kb Sh Ln
theorem T6 {fs:List cK} {G G':Nat→cV} {r:Nat→Nat} (hG:S5 fs G) (hG':S5 fs G') (hr:yt fs r) (hu:∀ f∈fs,dy (jG fs) f.body=false):∀ m i,r i<m→i<fs.length→G i=G' i:=by
 intro m;induction m with
 |zero=>intro i hi;omega
 |succ m ih=>
  intro i hi hl;have hf:fs[i]? =some fs[i]:=List.getElem?_eq_getElem hl;rw[hG i _ hf,hG' i _ hf];refine qY _ _ aac fun j hj=>?_;have hrj:=hr i _ hf j hj;exact ih j af (sQ _ _ aac (hu _ (aan hl)) j hj)
def e0:ByteArray:=bs []
def tq (nm:List UInt8):cw:= .mk 1 0 e0 (bs nm) []
def GM (n:Int) (u:List UInt8):cw:= .mk 0 n (bs u) e0 []
def vI:List cK:=[⟨bs [102],[⟨bs [120],bs [103,47,74]⟩],.mk 8 0 e0 e0 [tq [120],GM 2 []]⟩,
 ⟨bs [103],[⟨bs [120],bs [103,47,74]⟩],.mk 6 0 e0 e0 [.mk 3 0 e0 (bs [102]) [tq [120]],.mk 2 0 e0 (bs [103,114,105,100]) [GM 0 []]]⟩]
def pW:cL:=⟨bs [109,105,108,108],[],[⟨bs [105,110],bs [74],e0⟩,⟨bs [97,105,114],bs [103],e0⟩],[⟨bs [103,114,105,100],bs [103,47,74],[⟨0,2⟩]⟩],vI,
 [⟨bs [97],e0,GM 3 []⟩,⟨bs [98],bs [103],.mk 8 0 e0 e0 [.mk 3 0 e0 (bs [103]) [GM 1 [103,47,74]],tq [105,110]]⟩,
  ⟨bs [99],bs [103],.mk 6 0 e0 e0 [tq [98],.mk 8 0 e0 e0 [tq [97],tq [97,105,114]]]⟩,⟨bs [100],e0,.mk 6 0 e0 e0 [tq [97],GM 1 []]⟩],[],[],[]⟩
theorem JP:fQ pW=true:=by decide+kernel
theorem T7:S5 vI (oB vI 3):=fun i f h=>by
 match i,h with
 |0,h=>injection h with h;subst h;rfl
 |1,h=>injection h with h;subst h;rfl
 |n+2,h=>cases h
theorem Oe:yt vI fun i=>i:=fun i f h j hj=>by
 match i,h with
 |0,h=>
  injection h with h;subst h;(have:fS vI (.mk 8 0 e0 e0 [tq [120],GM 2 []])=[]:=by decide+kernel);have hj:j∈fS vI (.mk 8 0 e0 e0 [tq [120],GM 2 []]):=hj;rw[this]at hj;cases hj
 |1,h=>
  injection h with h;subst h;(have:fS vI (.mk 6 0 e0 e0 [.mk 3 0 e0 (bs [102]) [tq [120]],.mk 2 0 e0 (bs [103,114,105,100]) [GM 0 []]])=[0]:=by decide+kernel);have hj:j∈fS vI (.mk 6 0 e0 e0 [.mk 3 0 e0 (bs [102]) [tq [120]],.mk 2 0 e0 (bs [103,114,105,100]) [GM 0 []]]):=hj;rw[this]at hj;rw[aau.1 hj];exact Nat.zero_lt_one
 |n+2,h=>cases h
theorem T8:∀ f∈vI,dy (jG vI) f.body=false∧dy (jX vI) f.body=false∧dy (iU f.params) f.body=false∧cE f.body≤1000000∧f.params.length≤6:=by decide+kernel
theorem ex_ok:wM vI (oB vI 3) fun i=>i:=⟨T7,Oe,T8,by decide⟩
theorem ex_X (x:cw):fP vI (pR vI) x=fP vI (oB vI 3) x:=by
 obtain⟨r,h⟩:=Bk ⟨_,_,ex_ok⟩;exact P0 (fun i hi=>T6 h.fix T7 Oe (fun f hf=>(T8 f hf).1) _ i (Nat.lt_succ_self _) hi) x
theorem P5:gO vI=0:=by decide+kernel
theorem T9:∀ c∈pW.cells,(fP vI (oB vI 3) c.lC).1=0:=by decide+kernel
def exG:List (List Nat):=[[],[],[0,1],[0]]
theorem Xl:(pW.cells.map fun c=>(fP vI (oB vI 3) c.lC).2).map (wR pW.cells)=exG:=by decide+kernel
theorem T_:jg pW=some exG:=by
 unfold jg yz;rw[if_pos ⟨JP,P5,fun c hc=>by
  show(fP vI (pR vI) c.lC).1=0;rw[ex_X];exact T9 c hc⟩]
 show some _=some _;congr 1;have:(pW.cells.map fun c=>(CW pW.funcs c).2)=pW.cells.map fun c=>(fP vI (oB vI 3) c.lC).2:=List.map_congr_left fun c _=>congrArg (·.2) (ex_X c.lC);rw[this];exact Xl
theorem Ua:gG pW=(0,[0,1,2,3]):=by
 (have:Kn.jv exG=some [0,1,2,3]:=by decide+kernel);unfold gG;rw[T_];dsimp only;rw[this]
theorem P6:GK (fP vI (oB vI 3)) (0,[0,1,2,3]) pW=0:=by decide+kernel
theorem oI:iB pW=0:=by
 unfold iB;rw[Ua,show fP pW.funcs (pR pW.funcs)=fP vI (oB vI 3)from funext ex_X];exact P6
theorem ex_on1:xL pW (bs [98])=[(4,bs [98]),(3,bs [103]),(1,bs [105,110]),(3,bs [102]),(2,bs [103,114,105,100])]:=by decide+kernel
theorem ex_on3:xL pW (bs [100])=[(4,bs [100]),(4,bs [97])]:=by decide+kernel
end Ck
namespace Go.Proofs.YtfppbjfnllhgcaaGreat
section
open Go Go.RowKit Bg Go.Proofs Sh Kb
section
def GN (w:World):List Obj→World
 |[]=>w
 |o :: l=>GN (w.alloc o) l
theorem rA (B:Nat):∀ (l:List Obj) (w:World),B≤w.heap.size→Below B w (GN w l)
 |[],w,_=>aaf _ _
 |o :: l,w,h=>((aaf B w).alloc h o).trans (rA B l _ aq)
theorem E9:∀ (l:List Obj) (w:World) (i:Nat) (o:Obj),l[i]? =some o→(GN w l).heap[w.heap.size+i]? =some o
 |[],w,i,o,h=>by simp at h
 |p :: l,w,0,o,h=>by
  have e:p=o:=aK;subst e;exact((rA (w+1) l (w.alloc p) ai).block w af).trans (heap_alloc_new w p)
 |p :: l,w,i+1,o,h=>by
  have:=E9 l (w.alloc p) i o aK
  rwa [show(w.alloc p).heap.size+i=w.heap.size+(i+1) by simp;omega]at this
section
variable {α:Type} {R:Rel α} {w:World} {S:Nat→Prop} {g:Nat} {T:TypeId}
theorem Sq.vr {css:List (List Value)} {xs:List α} (h:cN w g T css.flatten) (hl:css.length=xs.length) (hk:∀ cs∈css,cs.length=R.k) (hS:S g) (hr:∀ (j:Nat) cs x,css[j]? =some cs→xs[j]? =some x→R.is w S cs x):Sq R w S (bY g 0) xs:=
 ⟨css,hl,fun _=>⟨g,0,rfl,hS,h.lt,fun j cs hj i v hv=>by rw[Nat.zero_add,h.cell];exact mC hk j i cs v hj hv⟩,hr⟩
theorem Sq.Xm {cs:List Value} {x:α} (h:cN w g T cs) (hS:S g) (hr:R.is w S cs x):Sq R w S (bY g 0) [x]:=
 Sq.vr (css:=[cs]) aK rfl (by intro c hc;rw[aau.1 hc];exact R.len hr) hS fun j c y hc hy=>by
  cases j with
  |zero=>simp at hc hy;subst hc hy;exact hr
  |succ j=>simp at hc
theorem Sq.Xn {cs ds:List Value} {x y:α} (h:cN w g T (cs++ds)) (hS:S g) (hr:R.is w S cs x) (hq:R.is w S ds y):Sq R w S (bY g 0) [x,y]:=
 Sq.vr (css:=[cs,ds]) aK rfl (by intro c hc;simp at hc;rcases hc with rfl|rfl;exact R.len hr;exact R.len hq) hS fun j c z hc hz=>by
  match j with
  |0=>simp at hc hz;subst hc hz;exact hr
  |1=>simp at hc hz;subst hc hz;exact hq
  |j+2=>simp at hc
theorem rK {op n:Int} {un nm:ByteArray}:cH w S [bU op,bU n,bV un,bV nm,cD] (.mk op n un nm []):=cH.of (A:=none) (c:=0) (args:=[]) Sq.nil
end
theorem oJ (n:Int) (u:ByteArray) (w:World):Calls prog 50 #[bU n,bV u] w fun e w'=>e= .returned (.agg #[bU 0,bU n,bV u,bV ⟨#[]⟩,cD])∧Below w w w':=by
 go_enter func50,ntmps50;have hk:cN (w.alloc (.cells #[bU 0,bU n,bV u,bV ⟨#[]⟩,cD] 47)) w 47 [bU 0,bU n,bV u,bV ⟨#[]⟩,cD]:=heap_alloc_new w _;have z:=hk.cell;go_wp2_with fail;exact bodyPost_ret (by simp[results,results50,go_sem,z]) rfl ⟨rfl,cS _⟩
theorem oK (u:ByteArray) (w:World):Calls prog 49 #[bV u] w fun e w'=>e= .returned (.agg #[bU 1,bU 0,bV ⟨#[]⟩,bV u,cD])∧Below w w w':=by
 go_enter func49,ntmps49;have hk:cN (w.alloc (.cells #[bU 1,bU 0,bV ⟨#[]⟩,bV u,cD] 47)) w 47 [bU 1,bU 0,bV ⟨#[]⟩,bV u,cD]:=heap_alloc_new w _;have z:=hk.cell;go_wp2_with fail;exact bodyPost_ret (by simp[results,results49,go_sem,z]) rfl ⟨rfl,cS _⟩
theorem ug {op o1 n1 o2 n2:Int} {u1 m1 u2 m2:ByteArray} {A1 A2:Option Addr} {l1 c1 l2 c2:Nat} {x y:cw} {w:World} {S:Nat→Prop} (hS:∀ b,w.heap.size≤b→S b) (hx:cH w S [bU o1,bU n1,bV u1,bV m1,bW A1 l1 c1] x) (hy:cH w S [bU o2,bU n2,bV u2,bV m2,bW A2 l2 c2] y):Calls prog 48 #[bU op,.agg #[bU o1,bU n1,bV u1,bV m1,bW A1 l1 c1],.agg #[bU o2,bU n2,bV u2,bV m2,bW A2 l2 c2]] w fun e w'=>∃ A c,e= .returned (.agg #[bU op,bU 0,bV ⟨#[]⟩,bV ⟨#[]⟩,bW A 2 c])∧cH w' S [bU op,bU 0,bV ⟨#[]⟩,bV ⟨#[]⟩,bW A 2 c] (.mk op 0 ⟨#[]⟩ ⟨#[]⟩ [x,y])∧Below w w w':=by
 have h4:=T5 w [bU o1,bU n1,bV u1,bV m1,bW A1 l1 c1] [bU o2,bU n2,bV u2,bV m2,bW A2 l2 c2] [bU op,bU 0,bV ⟨#[]⟩,bV ⟨#[]⟩,bW (bY (w+1+1+1) 0) 2 2] [bU o1,bU n1,bV u1,bV m1,bW A1 l1 c1,bU o2,bU n2,bV u2,bV m2,bW A2 l2 c2] 47 47 47 47;go_enter func48,ntmps48;go_wp2_with fail;obtain⟨W,hW,k0,k1,k2,k3,kb⟩:=h4;rw[hW];clear hW;have z:=k2.o.cell;have hI:cH W S [bU op,bU 0,bV ⟨#[]⟩,bV ⟨#[]⟩,bW (bY (w+1+1+1) 0) 2 2] (.mk op 0 ⟨#[]⟩ ⟨#[]⟩ [x,y]):=cH.of (args:=[x,y]) (Sq.Xn (R:=dh) (cs:=[bU o1,bU n1,bV u1,bV m1,bW A1 l1 c1]) (ds:=[bU o2,bU n2,bV u2,bV m2,bW A2 l2 c2]) k3.o (hS _ af) (dh.keep hx (cB.cA kb.o)) (dh.keep hy (cB.cA kb.o)));exact bodyPost_ret (v:= .agg #[bU op,bU 0,bV ⟨#[]⟩,bV ⟨#[]⟩,bW (bY (w+1+1+1) 0) 2 2]) (by simp[results,results48,go_sem,z]) rfl ⟨_,2,rfl,hI,kb.o⟩
theorem Df {op o1 n1:Int} {u1 m1 nm:ByteArray} {A1:Option Addr} {l1 c1:Nat} {x:cw} {w:World} {S:Nat→Prop} (hS:∀ b,w.heap.size≤b→S b) (hx:cH w S [bU o1,bU n1,bV u1,bV m1,bW A1 l1 c1] x):Calls prog 51 #[bU op,bV nm,.agg #[bU o1,bU n1,bV u1,bV m1,bW A1 l1 c1]] w fun e w'=>∃ A c,e= .returned (.agg #[bU op,bU 0,bV ⟨#[]⟩,bV nm,bW A 1 c])∧cH w' S [bU op,bU 0,bV ⟨#[]⟩,bV nm,bW A 1 c] (.mk op 0 ⟨#[]⟩ nm [x])∧Below w w w':=by
 have h4:=oH w [bU o1,bU n1,bV u1,bV m1,bW A1 l1 c1] [bU op,bU 0,bV ⟨#[]⟩,bV nm,bW (bY (w+1+1) 0) 1 1] [bU o1,bU n1,bV u1,bV m1,bW A1 l1 c1] 47 47 47;go_enter func51,ntmps51;go_wp2_with fail;obtain⟨W,hW,k0,k1,k2,kb⟩:=h4;rw[hW];clear hW;have z:=k1.o.cell;have hI:cH W S [bU op,bU 0,bV ⟨#[]⟩,bV nm,bW (bY (w+1+1) 0) 1 1] (.mk op 0 ⟨#[]⟩ nm [x]):=cH.of (args:=[x]) (Sq.Xm (R:=dh) k2.o (hS _ af) (dh.keep hx (cB.cA kb.o)));exact bodyPost_ret (v:= .agg #[bU op,bU 0,bV ⟨#[]⟩,bV nm,bW (bY (w+1+1) 0) 1 1]) (by simp[results,results51,go_sem,z]) rfl ⟨_,1,rfl,hI,kb.o⟩
end
end
section
open Go Go.RowKit Go.Maps Go.WideMaps
section
abbrev gZ:=Int×ByteArray
def j7 (z:gZ):List Value:=[bU z.1,bV z.2]
def mI (z:gZ):Go.Lit:=Lit.string (keyBytes [Lit.int .i64 z.1,Lit.string z.2.data.toList])
structure h_ (z:gZ):Prop where
 wf:(Lit.int .i64 z.1).wf=true
 size:z.2.size≤maxLen
theorem Ub:laidOutB prog=true:=by kernel_rfl
theorem Tryz.rowC:(51:TypeId)<Tryz.prog.types.size:=of_decide_eq_true ah
theorem Tryz.wideC:(match Tryz.prog.underlying 51 with|some (.array _ _)|some (.struct _)=>true|_=>false)=true:=by kernel_rfl
theorem Yv:Tryz.prog.keyTypeAt (Tryz.prog.types.size+1) 51=true:=by kernel_rfl
theorem ic:Tryz.prog.cellsOf 51=2:=by kernel_rfl
theorem Uc:Tryz.prog.cellsOf 3=1:=by kernel_rfl
theorem Ud:Tryz.prog.cellsOf 9=1:=by kernel_rfl
theorem Tryz.deep2:Tryz.prog.keyTypeAt 2 51=true:=by kernel_rfl
theorem n9:Keyed prog 51:=Keyed.of_law (deep_law_laid Ub (m:=2) ak Tryz.rowC Tryz.deep2 Tryz.wideC)
theorem nk {z:gZ} (h:h_ z):keyOf prog 51 (.agg #[bU z.1,bV z.2])=some (mI z):=by
 have h1:=h.wf;have h2:=h.size;obtain⟨n,hn⟩:∃ n,Tryz.prog.types.size=n+1:=Nat.exists_eq_succ_of_ne_zero (of_decide_eq_true ah);have hf:(Value.agg #[bU z.1,bV z.2]).formed prog 51=true:=(by simp[Value.formed,underlying51,ic]);have hkt:Tryz.prog.keyType 51=true:=Yv;unfold keyOf;rw[underlying51];simp only[hf,hkt,Bool.and_self,if_true];rw[hn];simp[Program.keyLits,underlying51,underlying3,underlying9,ic,Uc,Ud,Value.cells,h1,h2,mI]
theorem Dg {z z':gZ} (h:h_ z) (h':h_ z') (e:mI z=mI z'):z=z':=by
 have h1:=n9.inj (nk h) (e▸nk h');obtain⟨a,b⟩:=z;obtain⟨c,d⟩:=z';injection h1 with h1;have h2:[bU a,bV b]=[bU c,bV d]:=congrArg Array.toList h1;injection h2 with h3 h4;injection h4 with h4 _;injection h3 with _ h3;injection h4 with h4;rw[h3,h4]
theorem GP (z:gZ):WideAt.IsKeyLit (mI z):=by unfold mI;simp[WideAt.IsKeyLit]
def iq (w:World) (g n:Nat) (f:gZ→Option Value):Prop:=
 ∃ D:DataW Value,w.ownsMap prog 51 kR g n D∧IsMap D∧∀ z:gZ,h_ z→Maps.has D (mI z)=(f z).isSome∧(∀ v y,f z=some v→D.atKey (mI z) y= .held v)∧(∀ y,f z=none→D.atKey (mI z) y=y)
section
variable {w w':World} {g n:Nat} {f:gZ→Option Value}
theorem iq.made (w:World):iq (w.alloc (.map #[] 0)) w 0 (fun _=>none):=
 ⟨.map [],World.ownsMap_made w _ _ _,⟨[],rfl⟩,fun k _=>⟨rfl,fun v z h=>(by cases h),fun z _=>rfl⟩⟩
theorem iq.lt (h:iq w g n f):g<w.heap.size:=by
 obtain⟨D,h1,_⟩:=h;exact h1.lt
theorem iq.block (h:iq w g n f) (hb:w'.heap[g]? =w.heap[g]?):iq w' g n f:=by
 obtain⟨D,⟨es,clock,hbk,F,hs,hD⟩,h2,h3⟩:=h;exact⟨D,⟨es,clock,hb.trans hbk,F,hs,hD⟩,h2,h3⟩
theorem iq.bZ {B:Nat} (h:iq w g n f) (hb:Below B w w') (hg:g<B):iq w' g n f:=h.block (hb.block g hg)
theorem iq.alloc (h:iq w g n f) (o:Obj):iq (w.alloc o) g n f:=h.bZ (cS _) h.lt
theorem iq.drewN (h:iq w g n f) (k:Nat):iq (w.drewN k) g n f:=h
theorem iq.drew (h:iq w g n f):iq w.drew g n f:=h
theorem iq.cF {p:Addr} (h:iq w g n f) (hp:g≠p.block) (u:Value):iq (w.setCell p u) g n f:=h.block (aae w p u g hp)
theorem iq.mono {m:Nat} (h:iq w g n f) (hm:n≤m):iq w g m f:=by
 obtain⟨D,h1,h2⟩:=h;exact⟨D,h1.mono hm,h2⟩
theorem iq.look (h:iq w g n f) {t e:TypeId} (ht:Tryz.prog.underlying t=some (.map 51 e)) {y:Value} (hy:(zeroValue e).run prog w= .ok y w) {z:gZ} (hz:h_ z):(Instr.lookup t (.map (some g)) (.agg #[bU z.1,bV z.2]) false).run prog w= .ok ((f z).getD y) w:=by
 obtain⟨D,h1,h2,h3⟩:=h;obtain⟨p1,p2,p3⟩:=h3 z hz;obtain⟨v,ps,hr,hv⟩:=h1.lookup n9 ht hy (R:=kR) (zd:= .held y) (zp:=[]) rfl (nk hz);rw[hr];simp only[kR,Option.some.injEq,Prod.mk.injEq]at hv;obtain⟨hv,_⟩:=hv;cases hc:f z with
 |some u=>exact DataW.held.inj (hv.trans (p2 _ _ hc))▸rfl
 |none=>exact DataW.held.inj (hv.trans (p3 _ hc))▸rfl
end
end
end
open Go Go.RowKit Bg Go.Proofs Sh Kb
def eA:Rel (Int×ByteArray):=lX 2 (fun z=>[bU z.1,bV z.2]) (fun _=>rfl) (fun x v hv=>by simp at hv;rcases hv with rfl|rfl<;>rfl)
theorem Og (A:Option Addr) (c:Nat) (l:List (Int×ByteArray)) (k:Int) (nm:ByteArray) (w:World) (h:Sq eA w Any A l) (hl:l.length≤100000000):Calls prog 16 #[bW A l c,bU k,bV nm] w fun e w'=>e= .returned (.bool (l.any fun z=>z.1==k&&z.2==nm))∧Below w w w':=by
 obtain⟨n,hn⟩:∃ n,n=l.length:=⟨_,rfl⟩;have HN:=aa hn;rw[← hn]at hl ⊢;have H1:=aa h;clear h hn;obtain⟨b0,hb0⟩:∃ b,b=l.any fun z=>z.1==k&&z.2==nm:=⟨_,rfl⟩;have gY:=aa hb0;rw[← hb0];clear hb0;go_enter func16,ntmps16;go_wp2;go_loopw [7] (fun v wr=>∃ i:Nat,i≤n∧v=bU (i:Int)∧Hid ((l.take i).any (fun z=>z.1==k&&z.2==nm)=false)∧Hid (Below w w wr)) (fun v _=>n - (intOf v).toNat);(case atStart=>exact⟨0,by omega,rfl,aa rfl,aa (aaf _ _)⟩);obtain⟨i,hi,rfl,HF,HB⟩:=hrel;by_cases hlt:i<n;case pos=>
  (have hil:i<l.length:=by have:=HN.o;omega);obtain⟨b,o,cs,hA,_,_,hcs,cT⟩:=(H1.o.bZ HB.o).get hil;subst hA;have hcs:cs=[bU l[i].1,bV l[i].2]:=hcs;subst hcs;(have c0:b_ wr b (o+i*2) (bU l[i].1):=by have:=cT 0 _ rfl;rwa [show o+i*eA.k+0=o+i*2 by rfl]at this);have c1:b_ wr b (o+i*2+1) (bV l[i].2):=cT 1 _ rfl;have HT:=aa (show(l.take (i+1)).any (fun z=>z.1==k&&z.2==nm)=((l.take i).any (fun z=>z.1==k&&z.2==nm)||(l[i].1==k&&l[i].2==nm)) by rw[List.take_succ_eq_append_getElem hil,List.any_append];simp);have HM:=aa (aan hil);generalize l[i]=x at c0 c1 HT HM;clear cT;obtain⟨x1,x2⟩:=x;dsimp only at c0 c1;have HT:=aa (show(l.take (i+1)).any (fun z=>z.1==k&&z.2==nm)=(x1==k&&x2==nm) by have:=HT.o;rw[HF.o,Bool.false_or]at this;exact this);by_cases h1:x1=k;(case neg=>have z1:(x1==k)=false:=aF;go_wp2;go_roundw;exact⟨i+1,by omega,rfl,aa (by rw[HT.o,z1];rfl),HB⟩;simp[intOf];omega);have z1:(x1==k)=true:=aF;by_cases h2:x2=nm;case neg=>
   have z2:(x2.toList==nm.toList)=false:=by
    rw[Bool.eq_false_iff];intro h;have:=eq_of_beq h;rw[Lib.toList_data,Lib.toList_data]at this;exact h2 (ByteArray.ext (Array.toList_inj.1 this))
   have z3:(x2==nm)=false:=(by rw[beq_eq_false_iff_ne];exact h2);go_wp2;go_roundw;exact⟨i+1,by omega,rfl,aa (by rw[HT.o,z3,Bool.and_false]),HB⟩;simp[intOf];omega
  have HE:=aa (show b0=true by
   rw[gY.o,List.any_eq_true];exact⟨_,HM.o,by subst h1 h2;rw[beq_self_eq_true,beq_self_eq_true];rfl⟩)
  subst h2;have z2:(x2.toList==x2.toList)=true:=ai;go_wp2;go_ret;exact⟨by rw[HE.o];rfl,HB.o⟩
 (obtain rfl:i=n:=by omega);have HE:=aa (show b0=false by rw[gY.o, ← HF.o,List.take_of_length_le aC]);go_wp2;go_ret;exact⟨by rw[HE.o];rfl,HB.o⟩
theorem tu:Pj prog 35 51 2:= .of (.agg #[bU 0,bV ByteArray.empty]) 24 underlying35 ah rfl ak ak
theorem jR {w w':World} {row:Option Nat} {g:Nat} {t:TypeId} {cs:List Value} (h:w.grownBy w' row) (hr:some g≠row) (k:cN w g t cs):cN w' g t cs:=(h.block g k.lt hr).trans k
def ItS (p:Nat) (w1:World) (xs:List (Int×ByteArray)) (v:Value) (wr:World):Prop:=dM eA 51 (p+1) wr (fun _=>False) v xs∧Below (p+1) w1 wr
theorem ItS.more {p:Nat} {w1 wr w9:World} {v v':Value} {ls zs:List (Int×ByteArray)} {o:Obj} (hp:p+1≤w1.heap.size) (h:ItS p w1 ls v wr) (hg:Grown eA 51 (p+1) (wr.alloc o) (fun _=>False) v zs w9 v'):ItS p w1 zs v' w9:=
 have ha:=(aaf wr wr).alloc aac o
 ⟨hg.own,(h.2.trans (ha.mono (aaC hp h.2.size))).trans (hg.bZ (h.1.bZ ha) (aaC hp (aaC h.2.size ha.size)))⟩
end Go.Proofs.YtfppbjfnllhgcaaGreat
