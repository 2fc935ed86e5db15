/- Parts of the proof, packed (R23i to ShelfS); each theorem bears its own conditions. -/
import Derived.Shelf.SlSortCmp.WholeK
import Derived.Ground.SlsfProg
import Derived.Test.YtfppbjfnllhgcaaGreatPp09
set_option linter.unusedVariables false
set_option linter.unusedSimpArgs false
set_option maxRecDepth 100000
set_option maxHeartbeats 8000000
open Go.Proofs.Tryz
open Go.Lib renaming hid → aa
open Nat renaming le_refl→aaB,le_trans→aaC,zero_le→aaG
open Go.World renaming size_alloc→aaI
open List renaming getElem_mem→aan,length_append→aao,mem_singleton→aau,take_of_length_le→aax,mem_cons→aas,length_map→aap,getD_cons_zero→aal,getD_cons_succ→aak,take_succ_eq_append_getElem→aaz,drop_eq_getElem_cons→aah,length_take→aaq
open Go.RowKit.Below renaming refl→aaf
theorem aT {p:Prop} (h:p:=by have:=fh.o;have:=HN.o.2.size;rw[World.size_alloc];omega):p:=h
theorem aO {p:Prop} (h:p:=by have:=HO.o;have:=xR.o;have:=HB.o.size;omega):p:=h
theorem aY {p:Prop} (h:p:=by rw[hz];have:=HO.o;have:=xR.o;have:=HB.o.size;omega):p:=h
theorem aG {p:Prop} (h:p:=by first|rfl|(go_frame;rfl)):p:=h
theorem bA {p:Prop} (h:p:=by rw[World.size_alloc];have:=gT.o.size;omega):p:=h
theorem a_ {p:Prop} (h:p:=by simp only[World.size_alloc];have:=gT.o.size;omega):p:=h
namespace Go.Proofs.YtfppbjfnllhgcaaGreat
section
open Go Go.RowKit Bg Go.Proofs Sh Kb
def XI (s:cK):List (Int×ByteArray):=s.inputs.map (fun x=>((1:Int),x.name))++s.tables.map (fun x=>((2:Int),x.name))++s.funcs.map (fun x=>((3:Int),x.name))++s.cells.map (fun x=>((4:Int),x.name))
theorem lV:PJ prog 35 51 2:= .of (.agg #[bU 0,bV ByteArray.empty]) 24 underlying35 ah rfl ak ak
theorem Sq.nameAt {α:Type} {R:Rel α} {w:World} {S:Nat→Prop} {A:Option Addr} {xs:List α} {j:Nat} (h:Sq R w S A xs) (g:α→ByteArray) (hj:j<xs.length) (hg:∀ cs x,R.is w S cs x→cs[0]? =some (bV (g x))):∃ b o,A=bY b o∧b_ w b (o+j*R.k) (bV (g xs[j]))∧b<w.heap.size:=by
 obtain⟨b,o,cs,hA,_,hlt,ey,hc⟩:=h.get hj;exact⟨b,o,hA,hc 0 _ (hg cs _ ey),hlt⟩
theorem jQ {w w':World} {row:Option Nat} {g:Nat} {t:TypeId} {cs:List Value} (h:w.grownBy w' row) (hr:some g≠row) (k:cN w g t cs):cN w' g t cs:=(h.block g k.lt hr).trans k
def xD (l:List (Int×ByteArray)) (w:World) (e:Ending) (w':World):Prop:=∃ A c,e= .returned (bW A l c)∧Sq dI w' (fun b=>w.heap.size≤b) A l∧Below w w w'
def M6 (p:Nat) (w1:World) (xs:List (Int×ByteArray)) (v:Value) (wr:World):Prop:=dO dI 51 (p+1) wr (fun _=>False) v xs∧Below (p+1) w1 wr
theorem M6.more {p:Nat} {w1 wr w9:World} {v v':Value} {ls zs:List (Int×ByteArray)} {o:Obj} (hp:p+1≤w1.heap.size) (h:M6 p w1 ls v wr) (hg:Grown dI 51 (p+1) (wr.alloc o) (fun _=>False) v zs w9 v'):M6 p w1 zs v' w9:=
 have ha:=(aaf wr wr).alloc aac o
 ⟨hg.own,(h.2.trans (ha.mono (aaC hp h.2.size))).trans (hg.bZ (h.1.bZ ha) (aaC hp (aaC h.2.size ha.size)))⟩
theorem Qm (a:j6) (s:cK) (w:World) (hI:eo w Any a s) (hl:s.inputs.length≤100000∧s.tables.length≤100000∧s.funcs.length≤100000∧s.cells.length≤100000):Calls prog 15 #[.agg (dU a s).toArray] w (xD (XI s) w):=by
 generalize hP:xD (XI s) w=P;have HP:=aa (show ∀ e w',xD (XI s) w e w'→P e w' from fun e w' h=>hP▸h);clear hP;have HI:=aa hI;clear hI;obtain⟨A1,q1,A2,q2,A3,q3,A4,q4,A5,q5,A6,q6,A7,q7,A8,q8⟩:=a;simp only[dU];go_enter func15,ntmps15;go_upto_region 1 with fail;obtain⟨w1,p,hw,hp,K0,fh,HB,iQ,uu⟩:=Ep w (g_ s A1 A2 A3 A4 A5 A6 A7 A8 q1 q2 q3 q4 q5 q6 q7 q8) 31;rw[hw,hp];clear hw hp;have HN:=aa (show M6 p w1 ((s.inputs.take 0).map (fun x=>((1:Int),x.name))) cD w1 from⟨dO.ql,(aaf _ _).mono fh.o⟩);have x:=K0.o.cell;go_wp2;go_loopw [3,4] (fun v u wr=>∃ k:Nat,k≤s.inputs.length∧u=bU (k:Int)∧Hid (M6 p w1 ((s.inputs.take k).map (fun x=>((1:Int),x.name))) v wr)) (fun _ u _=>s.inputs.length - (intOf u).toNat);(case atStart=>exact⟨0,aaG _,rfl,HN⟩);clear HN x;obtain⟨k,hk,rfl,HN⟩:=hrel;have x:=(K0.o.bZ HN.o.2 af).cell;by_cases hlt:k<s.inputs.length;(case pos=>obtain⟨b,o,hA,hc,_⟩:=(HI.o.inputs.bZ (iQ.o _ HN.o.2)).nameAt (·.name) hlt (fun cs x e=>by rw[show cs=_ from e];rfl);subst hA;have hc:b_ wr b (o+k*3) (bV s.inputs[k].name):=hc;have HT:=aa (show(s.inputs.take (k+1)).map (fun x=>((1:Int),x.name))=((s.inputs.take k).map (fun x=>((1:Int),x.name)))++[(1,s.inputs[k].name)] by rw[aaz hlt,List.map_append];simp);(have hxl:((s.inputs.take k).map (fun x=>((1:Int),x.name))).length≤1000000:=by simp only[aao,aap,aaq];omega);generalize s.inputs[k].name=nm at hc HT;generalize (s.inputs.take k).map (fun x=>((1:Int),x.name))=ls at HN HT hxl;obtain⟨A0,c0,hv,_⟩:=HN.o.1.slice;subst hv;go_wp2_with (at_builtin;refine dz (R:=dI) (S:=fun _=>False) (xs:=ls) (ys:=[(1,nm)]) (T:=51) (t:=35) (B:=p+1) rfl (.tmp 15) (.tmp 23) 35 rfl rfl lV (HN.o.1.bZ (cS _)) rfl _ 1 1 rfl rfl (qQ.iM (R:=dI) (cs:=[_,_]) rfl _ rfl) af aT rfl (n:=ls.length+1) rfl ?_);intro A9 c9 w9 Ba HG;have Bj:=aa (M6.more fh.o HN.o HG.o);rw[← HT.o]at Bj;clear HG HN x hc;go_wp2;go_roundw;exact⟨k+1,by omega,rfl,Bj⟩;simp[intOf];omega);case neg=>
  rw[aax af]at HN
  replace HN:=aa (show M6 p w1 (s.inputs.map (fun x=>((1:Int),x.name))++(s.tables.take 0).map (fun x=>((2:Int),x.name))) _ _ by simpa using HN.o)
  go_wp2_with fail
  go_loopw [3,5] (fun v u wr=>∃ k:Nat,k≤s.tables.length∧u=bU (k:Int)∧Hid (M6 p w1 (s.inputs.map (fun x=>((1:Int),x.name))++(s.tables.take k).map (fun x=>((2:Int),x.name))) v wr)) (fun _ u _=>s.tables.length - (intOf u).toNat)
  case atStart=>exact⟨0,aaG _,rfl,HN⟩
  case round=>
   clear HN x;obtain⟨k,hk,rfl,HN⟩:=hrel;have x:=(K0.o.bZ HN.o.2 af).cell;by_cases hlt:k<s.tables.length;(case pos=>obtain⟨b,o,hA,hc,_⟩:=(HI.o.tables.bZ (iQ.o _ HN.o.2)).nameAt (·.name) hlt (fun cs x e=>by obtain⟨A,c,e,_⟩:=e;rw[e];rfl);subst hA;have hc:b_ wr b (o+k*3) (bV s.tables[k].name):=hc;have HT:=aa (show s.inputs.map (fun x=>((1:Int),x.name))++(s.tables.take (k+1)).map (fun x=>((2:Int),x.name))=(s.inputs.map (fun x=>((1:Int),x.name))++(s.tables.take k).map (fun x=>((2:Int),x.name)))++[(2,s.tables[k].name)] by rw[aaz hlt,List.map_append];simp);(have hxl:(s.inputs.map (fun x=>((1:Int),x.name))++(s.tables.take k).map (fun x=>((2:Int),x.name))).length≤1000000:=by simp only[aao,aap,aaq];omega);generalize s.tables[k].name=nm at hc HT;generalize s.inputs.map (fun x=>((1:Int),x.name))++(s.tables.take k).map (fun x=>((2:Int),x.name))=ls at HN HT hxl;obtain⟨A0,c0,hv,_⟩:=HN.o.1.slice;subst hv;go_wp2_with (at_builtin;refine dz (R:=dI) (S:=fun _=>False) (xs:=ls) (ys:=[(2,nm)]) (T:=51) (t:=35) (B:=p+1) rfl (.tmp 32) (.tmp 40) 35 rfl rfl lV (HN.o.1.bZ (cS _)) rfl _ 1 1 rfl rfl (qQ.iM (R:=dI) (cs:=[_,_]) rfl _ rfl) af aT rfl (n:=ls.length+1) rfl ?_);intro A9 c9 w9 Ba HG;have Bj:=aa (M6.more fh.o HN.o HG.o);rw[← HT.o]at Bj;clear HG HN x hc;go_wp2;go_roundw;exact⟨k+1,by omega,rfl,Bj⟩;simp[intOf];omega);case neg=>
    rw[aax af]at HN
    replace HN:=aa (show M6 p w1 (s.inputs.map (fun x=>((1:Int),x.name))++s.tables.map (fun x=>((2:Int),x.name))++(s.funcs.take 0).map (fun x=>((3:Int),x.name))) _ _ by simpa using HN.o)
    go_wp2_with fail
    go_loopw [3,6] (fun v u wr=>∃ k:Nat,k≤s.funcs.length∧u=bU (k:Int)∧Hid (M6 p w1 (s.inputs.map (fun x=>((1:Int),x.name))++s.tables.map (fun x=>((2:Int),x.name))++(s.funcs.take k).map (fun x=>((3:Int),x.name))) v wr)) (fun _ u _=>s.funcs.length - (intOf u).toNat)
    case atStart=>exact⟨0,aaG _,rfl,HN⟩
    case round=>
     clear HN x;obtain⟨k,hk,rfl,HN⟩:=hrel;have x:=(K0.o.bZ HN.o.2 af).cell;by_cases hlt:k<s.funcs.length;(case pos=>obtain⟨b,o,hA,hc,_⟩:=(HI.o.funcs.bZ (iQ.o _ HN.o.2)).nameAt (·.name) hlt (fun cs x e=>by obtain⟨A,c,es,e,_⟩:=e;rw[e];rfl);subst hA;have hc:b_ wr b (o+k*7) (bV s.funcs[k].name):=hc;have HT:=aa (show s.inputs.map (fun x=>((1:Int),x.name))++s.tables.map (fun x=>((2:Int),x.name))++(s.funcs.take (k+1)).map (fun x=>((3:Int),x.name))=(s.inputs.map (fun x=>((1:Int),x.name))++s.tables.map (fun x=>((2:Int),x.name))++(s.funcs.take k).map (fun x=>((3:Int),x.name)))++[(3,s.funcs[k].name)] by rw[aaz hlt,List.map_append];simp);(have hxl:(s.inputs.map (fun x=>((1:Int),x.name))++s.tables.map (fun x=>((2:Int),x.name))++(s.funcs.take k).map (fun x=>((3:Int),x.name))).length≤1000000:=by simp only[aao,aap,aaq];omega);generalize s.funcs[k].name=nm at hc HT;generalize s.inputs.map (fun x=>((1:Int),x.name))++s.tables.map (fun x=>((2:Int),x.name))++(s.funcs.take k).map (fun x=>((3:Int),x.name))=ls at HN HT hxl;obtain⟨A0,c0,hv,_⟩:=HN.o.1.slice;subst hv;go_wp2_with (at_builtin;refine dz (R:=dI) (S:=fun _=>False) (xs:=ls) (ys:=[(3,nm)]) (T:=51) (t:=35) (B:=p+1) rfl (.tmp 49) (.tmp 57) 35 rfl rfl lV (HN.o.1.bZ (cS _)) rfl _ 1 1 rfl rfl (qQ.iM (R:=dI) (cs:=[_,_]) rfl _ rfl) af aT rfl (n:=ls.length+1) rfl ?_);intro A9 c9 w9 Ba HG;have Bj:=aa (M6.more fh.o HN.o HG.o);rw[← HT.o]at Bj;clear HG HN x hc;go_wp2;go_roundw;exact⟨k+1,by omega,rfl,Bj⟩;simp[intOf];omega);case neg=>
      rw[aax af]at HN
      replace HN:=aa (show M6 p w1 (s.inputs.map (fun x=>((1:Int),x.name))++s.tables.map (fun x=>((2:Int),x.name))++s.funcs.map (fun x=>((3:Int),x.name))++(s.cells.take 0).map (fun x=>((4:Int),x.name))) _ _ by simpa using HN.o)
      go_wp2_with fail
      go_loopw [3,7] (fun v u wr=>∃ k:Nat,k≤s.cells.length∧u=bU (k:Int)∧Hid (M6 p w1 (s.inputs.map (fun x=>((1:Int),x.name))++s.tables.map (fun x=>((2:Int),x.name))++s.funcs.map (fun x=>((3:Int),x.name))++(s.cells.take k).map (fun x=>((4:Int),x.name))) v wr)) (fun _ u _=>s.cells.length - (intOf u).toNat)
      case atStart=>exact⟨0,aaG _,rfl,HN⟩
      case round=>
       clear HN x;obtain⟨k,hk,rfl,HN⟩:=hrel;have x:=(K0.o.bZ HN.o.2 af).cell;by_cases hlt:k<s.cells.length;(case pos=>obtain⟨b,o,hA,hc,_⟩:=(HI.o.cells.bZ (iQ.o _ HN.o.2)).nameAt (·.name) hlt (fun cs x e=>by obtain⟨es,e,_⟩:=e;rw[e];rfl);subst hA;have hc:b_ wr b (o+k*7) (bV s.cells[k].name):=hc;have HT:=aa (show s.inputs.map (fun x=>((1:Int),x.name))++s.tables.map (fun x=>((2:Int),x.name))++s.funcs.map (fun x=>((3:Int),x.name))++(s.cells.take (k+1)).map (fun x=>((4:Int),x.name))=(s.inputs.map (fun x=>((1:Int),x.name))++s.tables.map (fun x=>((2:Int),x.name))++s.funcs.map (fun x=>((3:Int),x.name))++(s.cells.take k).map (fun x=>((4:Int),x.name)))++[(4,s.cells[k].name)] by rw[aaz hlt,List.map_append];simp);(have hxl:(s.inputs.map (fun x=>((1:Int),x.name))++s.tables.map (fun x=>((2:Int),x.name))++s.funcs.map (fun x=>((3:Int),x.name))++(s.cells.take k).map (fun x=>((4:Int),x.name))).length≤1000000:=by simp only[aao,aap,aaq];omega);generalize s.cells[k].name=nm at hc HT;generalize s.inputs.map (fun x=>((1:Int),x.name))++s.tables.map (fun x=>((2:Int),x.name))++s.funcs.map (fun x=>((3:Int),x.name))++(s.cells.take k).map (fun x=>((4:Int),x.name))=ls at HN HT hxl;obtain⟨A0,c0,hv,_⟩:=HN.o.1.slice;subst hv;go_wp2_with (at_builtin;refine dz (R:=dI) (S:=fun _=>False) (xs:=ls) (ys:=[(4,nm)]) (T:=51) (t:=35) (B:=p+1) rfl (.tmp 66) (.tmp 74) 35 rfl rfl lV (HN.o.1.bZ (cS _)) rfl _ 1 1 rfl rfl (qQ.iM (R:=dI) (cs:=[_,_]) rfl _ rfl) af aT rfl (n:=ls.length+1) rfl ?_);intro A9 c9 w9 Ba HG;have Bj:=aa (M6.more fh.o HN.o HG.o);rw[← HT.o]at Bj;clear HG HN x hc;go_wp2;go_roundw;exact⟨k+1,by omega,rfl,Bj⟩;simp[intOf];omega);rw[aax af]at HN;obtain⟨h,hb⟩:=HN.o;obtain⟨A9,c9,hv,_⟩:=h.slice;subst hv;go_wp2;exact HP.o (.returned (bW A9 (XI s).length c9)) _ ⟨A9,c9,rfl,(h.mono (fun b _ (h:False)=>h.elim)).sq fun b _ hb=>by have:=uu.o;omega,iQ.o _ hb⟩
theorem M7:(Tryz.prog.info? 31).map (·.size)=some 9:=by kernel_rfl
theorem XJ {α:Type} {R:Rel α} {T g:Nat} {w:World} {S:Nat→Prop} {cs ds:List Value} {x y:α} (h:cN w g T (cs++ds)) (h1:cs.length=R.k) (h2:ds.length=R.k) (hr:R.is w (fun b=>S b∧some b≠some g) cs x) (hq:R.is w (fun b=>S b∧some b≠some g) ds y):dO R T g w S (bW (bY g 0) 2 2) [x,y]:=by
 refine⟨[cs,ds],rfl,⟨by simp[h1,h2];omega,.inr ⟨g,2,(cs++ds).toArray,rfl,aaB _,h,aaB _,by unfold maxLen;omega,by simp[h1,h2];omega,?_⟩⟩,?_,fun j c z hc hz=>?_⟩
 (·show(cs++ds).take (2*R.k)=[cs,ds].flatten;rw[aax (by rw[aao,h1,h2];omega)];simp)
 ·intro c hc;simp at hc;rcases hc with rfl|rfl
  (·exact h1);exact h2
 ·match j with
  |0=>simp at hc hz;subst hc hz;exact hr
  |1=>simp at hc hz;subst hc hz;exact hq
  |j+2=>simp at hc
def ExP (w:World) (e:Ending) (w':World):Prop:=∃ a:j6,e= .returned (.agg (dU a Ck.qc).toArray)∧eo w' Any a Ck.qc∧Below w w w'
theorem J7 (w:World):Calls prog 22 #[] w (ExP w):=by
 generalize hP:ExP w=P
 have HP:=aa (show ∀ e w',ExP w e w'→P e w' from fun e w' h=>hP▸h)
 clear hP
 go_enter func22,ntmps22
 go_upto_region 3 with fail
 obtain⟨w1,hw⟩:∃ W,W=G7 w [.cells (BU) 31,.cells #[bV ⟨#[120]⟩,bV ⟨#[103,47,74]⟩] 112,.cells #[bV ⟨#[105,110]⟩,bV ⟨#[74]⟩,bV ⟨#[]⟩,bV ⟨#[97,105,114]⟩,bV ⟨#[103]⟩,bV ⟨#[]⟩] 102,.cells #[.int .i64 0,.int .i64 2] 114,.cells #[bV ⟨#[103,114,105,100]⟩,bV ⟨#[103,47,74]⟩,bW (bY (w+1+1+1) 0) 1 1] 65,.cells #[bV ⟨#[109,105,108,108]⟩,cD,bW (bY (w+1+1) 0) 2 2,bW (bY (w+1+1+1+1) 0) 1 1,cD,cD,cD,cD,cD] 31]:=⟨_,rfl⟩
 have hb0:Below w w w1:=by rw[hw];exact rF _ _ _ aac
 have hA:=fun i o h=>hw▸Fs [.cells (BU) 31,.cells #[bV ⟨#[120]⟩,bV ⟨#[103,47,74]⟩] 112,.cells #[bV ⟨#[105,110]⟩,bV ⟨#[74]⟩,bV ⟨#[]⟩,bV ⟨#[97,105,114]⟩,bV ⟨#[103]⟩,bV ⟨#[]⟩] 102,.cells #[bU 0,bU 2] 114,.cells #[bV ⟨#[103,114,105,100]⟩,bV ⟨#[103,47,74]⟩,bW (bY (w+1+1+1) 0) 1 1] 65,.cells #[bV ⟨#[109,105,108,108]⟩,cD,bW (bY (w+1+1) 0) 2 2,bW (bY (w+1+1+1+1) 0) 1 1,cD,cD,cD,cD,cD] 31] w i o h
 have k0:cN w1 (w.heap.size) 31 (BU):=hA 0 _ rfl
 have k1:cN w1 (w+1) 112 [bV ⟨#[120]⟩,bV ⟨#[103,47,74]⟩]:=hA 1 _ rfl
 have k2:cN w1 (w+1+1) 102 [bV ⟨#[105,110]⟩,bV ⟨#[74]⟩,bV ⟨#[]⟩,bV ⟨#[97,105,114]⟩,bV ⟨#[103]⟩,bV ⟨#[]⟩]:=hA 2 _ rfl
 have k3:cN w1 (w+1+1+1) 114 [bU 0,bU 2]:=hA 3 _ rfl
 have k4:cN w1 (w+1+1+1+1) 65 [bV ⟨#[103,114,105,100]⟩,bV ⟨#[103,47,74]⟩,bW (bY (w+1+1+1) 0) 1 1]:=hA 4 _ rfl
 have k5:cN w1 (w+1+1+1+1+1) 31 [bV ⟨#[109,105,108,108]⟩,cD,bW (bY (w+1+1) 0) 2 2,bW (bY (w+1+1+1+1) 0) 1 1,cD,cD,cD,cD,cD]:=hA 5 _ rfl
 rw[show((((((w.alloc (.cells (BU) 31)).alloc (.cells #[bV ⟨#[120]⟩,bV ⟨#[103,47,74]⟩] 112)).alloc (.cells #[bV ⟨#[105,110]⟩,bV ⟨#[74]⟩,bV ⟨#[]⟩,bV ⟨#[97,105,114]⟩,bV ⟨#[103]⟩,bV ⟨#[]⟩] 102)).alloc (.cells #[bU 0,bU 2] 114)).alloc (.cells #[bV ⟨#[103,114,105,100]⟩,bV ⟨#[103,47,74]⟩,bW (bY (w+1+1+1) 0) 1 1] 65)).alloc (.cells #[bV ⟨#[109,105,108,108]⟩,cD,bW (bY (w+1+1) 0) 2 2,bW (bY (w+1+1+1+1) 0) 1 1,cD,cD,cD,cD,cD] 31))=w1 from hw.symm]
 clear hA hw
 obtain⟨p5,hp5⟩:∃ p,p=w.heap.size+1+1+1+1+1:=⟨_,rfl⟩
 obtain⟨p4,hp4⟩:∃ p,p=w.heap.size+1+1+1+1:=⟨_,rfl⟩
 obtain⟨p3,hp3⟩:∃ p,p=w.heap.size+1+1+1:=⟨_,rfl⟩
 obtain⟨p2,hp2⟩:∃ p,p=w.heap.size+1+1:=⟨_,rfl⟩
 obtain⟨p1,hp1⟩:∃ p,p=w.heap.size+1:=⟨_,rfl⟩
 obtain⟨p0,Lc⟩:∃ p,p=w.heap.size:=⟨_,rfl⟩
 simp only[← hp5]at k0 k1 k2 k3 k4 k5 ⊢
 simp only[← hp4]at k0 k1 k2 k3 k4 k5 ⊢
 simp only[← hp3]at k0 k1 k2 k3 k4 k5 ⊢
 simp only[← hp2]at k0 k1 k2 k3 k4 k5 ⊢
 simp only[← hp1]at k0 k1 k2 k3 k4 k5 ⊢
 rw[← Lc]at k0 ⊢
 have HO:=aa (show p0<p1∧p1<p2∧p2<p3∧p3<p4∧p4<p5∧p5<w1.heap.size∧w.heap.size≤p0 from by have:=k5.lt;omega)
 have iD:=aa hb0
 have HS:=aa (show ∀ W:World,w1.heap.size≤W→∀ b,W.heap.size≤b→b≠p0∧b≠p5 from fun W h b hb=>by have:=HO.o;omega)
 have SP:=aa (show Sq jm w1 (fun b=>b≠p0∧b≠p5) (bY p1 0) [⟨⟨#[120]⟩,⟨#[103,47,74]⟩⟩]from Sq.XG (R:=jm) k1 (by have:=HO.o;omega) rfl)
 have SI:=aa (show Sq qU w1 (fun b=>b≠p0∧b≠p5) (bY p2 0) Ck.qc.inputs from Sq.XH (R:=qU) (cs:=[bV ⟨#[105,110]⟩,bV ⟨#[74]⟩,bV ⟨#[]⟩]) (ds:=[bV ⟨#[97,105,114]⟩,bV ⟨#[103]⟩,bV ⟨#[]⟩]) k2 (by have:=HO.o;omega) rfl rfl)
 have ST:=aa (show Sq mG w1 (fun b=>b≠p0∧b≠p5) (bY p4 0) Ck.qc.tables from Sq.XG (R:=mG) k4 (by have:=HO.o;omega) ⟨_,_,rfl,Sq.XG (R:=LD) k3 (by have:=HO.o;omega) rfl⟩)
 have K0:=aa k0
 have K5:=aa k5
 clear k0 k1 k2 k3 k4 k5 Lc hp1 hp2 hp3 hp4 hp5 hb0
 have HB:=aa (aaf w1 w1)
 go_wp2_with fail
 refine(oV _ _).mono ?_
 rintro e w2 ⟨rfl,hb⟩
 replace HB:=aa (HB.o.trans (hb.mono HB.o.size))
 clear hb
 go_wp2_with fail
 refine(oU 2 _ _).mono ?_
 rintro e w3 ⟨rfl,hb⟩
 replace HB:=aa (HB.o.trans (hb.mono HB.o.size))
 clear hb
 go_wp2_with fail
 refine(uh (S:=fun b=>b≠p0∧b≠p5) (HS.o _ HB.o.size) rP rP).mono ?_
 rintro e w4 ⟨A16,c16,rfl,h,hb⟩
 replace HB:=aa (HB.o.trans (hb.mono HB.o.size))
 clear hb
 have Rv:=aa h
 clear h
 go_wp2_with fail
 refine(oV _ _).mono ?_
 rintro e w5 ⟨rfl,hb⟩
 replace HB:=aa (HB.o.trans (hb.mono HB.o.size))
 replace Rv:=aa (di.keep Rv.o (cB.cA hb))
 clear hb
 go_wp2_with fail
 refine(Ds (S:=fun b=>b≠p0∧b≠p5) (HS.o _ HB.o.size) rP).mono ?_
 rintro e w6 ⟨A20,c20,rfl,h,hb⟩
 replace HB:=aa (HB.o.trans (hb.mono HB.o.size))
 replace Rv:=aa (di.keep Rv.o (cB.cA hb))
 clear hb
 have YO:=aa h
 clear h
 go_wp2_with fail
 refine(oU 0 _ _).mono ?_
 rintro e w7 ⟨rfl,hb⟩
 replace HB:=aa (HB.o.trans (hb.mono HB.o.size))
 replace Rv:=aa (di.keep Rv.o (cB.cA hb))
 replace YO:=aa (di.keep YO.o (cB.cA hb))
 clear hb
 go_wp2_with fail
 refine(Ds (S:=fun b=>b≠p0∧b≠p5) (HS.o _ HB.o.size) rP).mono ?_
 rintro e w8 ⟨A22,c22,rfl,h,hb⟩
 replace HB:=aa (HB.o.trans (hb.mono HB.o.size))
 replace Rv:=aa (di.keep Rv.o (cB.cA hb))
 replace YO:=aa (di.keep YO.o (cB.cA hb))
 clear hb
 have E22:=aa h
 clear h
 go_wp2_with fail
 refine(uh (S:=fun b=>b≠p0∧b≠p5) (HS.o _ HB.o.size) YO.o E22.o).mono ?_
 rintro e w9 ⟨A23,c23,rfl,h,hb⟩
 replace HB:=aa (HB.o.trans (hb.mono HB.o.size))
 replace Rv:=aa (di.keep Rv.o (cB.cA hb))
 replace YO:=aa (di.keep YO.o (cB.cA hb))
 replace E22:=aa (di.keep E22.o (cB.cA hb))
 clear hb
 clear YO
 clear E22
 have E23:=aa h
 clear h
 have xR:=aa (show p5<w1.heap.size from HO.o.2.2.2.2.2.1)
 have k5:=K5.o.bZ HB.o xR.o
 have x5:=k5.cell
 have f5:=k5.frozen
 have v5:p5<w9.heap.size:=k5.lt
 go_upto_region 4 with fail
 clear x5 f5
 obtain⟨wb,hw⟩:∃ W,W=(w9.setCell (bY p5 4) (bW (bY w9 0) 2 2)).alloc (.cells #[bV ⟨#[102]⟩,bW (bY p1 0) 1 1,.int .i64 8,.int .i64 0,bV ⟨#[]⟩,bV ⟨#[]⟩,bW A16 2 c16,bV ⟨#[103]⟩,bW (bY p1 0) 1 1,.int .i64 6,.int .i64 0,bV ⟨#[]⟩,bV ⟨#[]⟩,bW A23 2 c23] 69):=⟨_,rfl⟩
 rw[← hw]
 have hz:(w9.setCell (bY p5 4) (bW (bY w9 0) 2 2)).heap.size=w9.heap.size:=by simp[World.setCell]
 have hg:w9.grownBy (w9.setCell (bY p5 4) (bW (bY w9 0) 2 2)) (some p5):=fJ (World.grownBy.refl w9 (some p5)) 4 _
 have hba:Below (w9.setCell (bY p5 4) (bW (bY w9 0) 2 2)).heap.size (w9.setCell (bY p5 4) (bW (bY w9 0) 2 2)) wb:=by rw[hw];exact cS _
 have kf:cN wb w9 69 ([bV ⟨#[102]⟩,bW (bY p1 0) 1 1,bU 8,bU 0,bV ⟨#[]⟩,bV ⟨#[]⟩,bW A16 2 c16]++[bV ⟨#[103]⟩,bW (bY p1 0) 1 1,bU 6,bU 0,bV ⟨#[]⟩,bV ⟨#[]⟩,bW A23 2 c23]):=by have:=heap_alloc_new (w9.setCell (bY p5 4) (bW (bY w9 0) 2 2)) (.cells #[bV ⟨#[102]⟩,bW (bY p1 0) 1 1,bU 8,bU 0,bV ⟨#[]⟩,bV ⟨#[]⟩,bW A16 2 c16,bV ⟨#[103]⟩,bW (bY p1 0) 1 1,bU 6,bU 0,bV ⟨#[]⟩,bV ⟨#[]⟩,bW A23 2 c23] 69);rw[hz, ← hw]at this;exact this
 have k5n:cN wb p5 31 [bV ⟨#[109,105,108,108]⟩,cD,bW (bY p2 0) 2 2,bW (bY p4 0) 1 1,bW (bY w9 0) 2 2,cD,cD,cD,cD]:=(show cN (w9.setCell (bY p5 4) (bW (bY w9 0) 2 2)) p5 31 [bV ⟨#[109,105,108,108]⟩,cD,bW (bY p2 0) 2 2,bW (bY p4 0) 1 1,bW (bY w9 0) 2 2,cD,cD,cD,cD]from k5.eB 4 _).bZ hba (by rw[hz];exact v5)
 have k0n:cN wb p0 31 (BU):=(jQ hg (fun e=>by injection e with e;have:=HO.o;have:=xR.o;have:=HB.o.size;omega) (K0.o.bZ HB.o aO)).bZ hba aY
 have kk:cB (fun b=>b≠p0∧b≠p5) w9 wb:=(cB.fE hg fun b hb e=>by injection e with e;exact hb.2 e).trans (cB.cA hba)
 have hsz:w9.heap.size<wb:=kf.lt
 have Du:=aa (show Below w w wb from(cC (iD.o.trans (HB.o.mono iD.o.size)) hg aO aO).trans (hba.mono aY))
 have yK:=HB.o.size
 replace SP:=aa ((SP.o.bZ HB.o).keep kk)
 replace SI:=aa ((SI.o.bZ HB.o).keep kk)
 replace ST:=aa ((ST.o.bZ HB.o).keep kk)
 have SF:=aa (show Sq gR wb (fun b=>b≠p0∧b≠p5) (bY w9 0) Ck.qc.funcs from Sq.XH (R:=gR) (cs:=[bV ⟨#[102]⟩,bW (bY p1 0) 1 1,bU 8,bU 0,bV ⟨#[]⟩,bV ⟨#[]⟩,bW A16 2 c16]) (ds:=[bV ⟨#[103]⟩,bW (bY p1 0) 1 1,bU 6,bU 0,bV ⟨#[]⟩,bV ⟨#[]⟩,bW A23 2 c23]) kf (by have:=HO.o;omega) ⟨_,1,_,rfl,SP.o,di.keep Rv.o kk⟩ ⟨_,1,_,rfl,SP.o,di.keep E23.o kk⟩)
 clear iD HB K5 K0
 replace HS:=aa (fun(W:World) (h:wb.heap.size≤W)=>HS.o W af)
 have iD:=Du
 have HB:=aa (aaf wb wb)
 obtain⟨gf,hgg⟩:∃ g,g=w9.heap.size:=⟨_,rfl⟩
 have HLgf:=aa (show p5<gf∧gf<wb.heap.size by have:=HO.o;omega)
 rw[← hgg]at SF k5n ⊢
 have K5:=aa k5n
 have K0:=aa k0n
 clear k5n k0n k5 kf kk hba hg hz hw hsz yK v5 hgg Du Rv E23 SP xR
 have xR:=aa (show p5<wb.heap.size by have:=HLgf.o;omega)
 go_wp2_with fail
 refine(oU 3 _ _).mono ?_
 rintro e Xy ⟨rfl,hb⟩
 replace HB:=aa (HB.o.trans (hb.mono HB.o.size))
 clear hb
 go_wp2_with fail
 refine(oU 1 _ _).mono ?_
 rintro e w11 ⟨rfl,hb⟩
 replace HB:=aa (HB.o.trans (hb.mono HB.o.size))
 clear hb
 go_wp2_with fail
 refine(Ds (S:=fun b=>b≠p0∧b≠p5) (HS.o _ HB.o.size) rP).mono ?_
 rintro e Qn ⟨A30,c30,rfl,h,hb⟩
 replace HB:=aa (HB.o.trans (hb.mono HB.o.size))
 clear hb
 have E30:=aa h
 clear h
 go_wp2_with fail
 refine(oV _ _).mono ?_
 rintro e w13 ⟨rfl,hb⟩
 replace HB:=aa (HB.o.trans (hb.mono HB.o.size))
 replace E30:=aa (di.keep E30.o (cB.cA hb))
 clear hb
 go_wp2_with fail
 refine(uh (S:=fun b=>b≠p0∧b≠p5) (HS.o _ HB.o.size) E30.o rP).mono ?_
 rintro e qa ⟨A32,c32,rfl,h,hb⟩
 replace HB:=aa (HB.o.trans (hb.mono HB.o.size))
 replace E30:=aa (di.keep E30.o (cB.cA hb))
 clear hb
 clear E30
 have E32:=aa h
 clear h
 have k5:=K5.o.bZ HB.o xR.o
 have x5:=k5.cell
 have f5:=k5.frozen
 have v5:p5<qa.heap.size:=k5.lt
 go_upto_region 5 with fail
 clear x5 f5
 obtain⟨wc,hw⟩:∃ W,W=(qa.setCell (bY p5 5) (bW (bY qa 0) 2 2)).alloc (.cells #[bV ⟨#[97]⟩,bV ⟨#[]⟩,.int .i64 0,.int .i64 3,bV ⟨#[]⟩,bV ⟨#[]⟩,cD,bV ⟨#[98]⟩,bV ⟨#[103]⟩,.int .i64 8,.int .i64 0,bV ⟨#[]⟩,bV ⟨#[]⟩,bW A32 2 c32] 49):=⟨_,rfl⟩
 rw[← hw]
 have hz:(qa.setCell (bY p5 5) (bW (bY qa 0) 2 2)).heap.size=qa.heap.size:=by simp[World.setCell]
 have hg:qa.grownBy (qa.setCell (bY p5 5) (bW (bY qa 0) 2 2)) (some p5):=fJ (World.grownBy.refl qa (some p5)) 5 _
 have hba:Below (qa.setCell (bY p5 5) (bW (bY qa 0) 2 2)).heap.size (qa.setCell (bY p5 5) (bW (bY qa 0) 2 2)) wc:=by rw[hw];exact cS _
 have kf:cN wc qa 49 ([bV ⟨#[97]⟩,bV ⟨#[]⟩,bU 0,bU 3,bV ⟨#[]⟩,bV ⟨#[]⟩,cD]++[bV ⟨#[98]⟩,bV ⟨#[103]⟩,bU 8,bU 0,bV ⟨#[]⟩,bV ⟨#[]⟩,bW A32 2 c32]):=by have:=heap_alloc_new (qa.setCell (bY p5 5) (bW (bY qa 0) 2 2)) (.cells #[bV ⟨#[97]⟩,bV ⟨#[]⟩,bU 0,bU 3,bV ⟨#[]⟩,bV ⟨#[]⟩,cD,bV ⟨#[98]⟩,bV ⟨#[103]⟩,bU 8,bU 0,bV ⟨#[]⟩,bV ⟨#[]⟩,bW A32 2 c32] 49);rw[hz, ← hw]at this;exact this
 have k5n:cN wc p5 31 [bV ⟨#[109,105,108,108]⟩,cD,bW (bY p2 0) 2 2,bW (bY p4 0) 1 1,bW (bY gf 0) 2 2,bW (bY qa 0) 2 2,cD,cD,cD]:=(show cN (qa.setCell (bY p5 5) (bW (bY qa 0) 2 2)) p5 31 [bV ⟨#[109,105,108,108]⟩,cD,bW (bY p2 0) 2 2,bW (bY p4 0) 1 1,bW (bY gf 0) 2 2,bW (bY qa 0) 2 2,cD,cD,cD]from k5.eB 5 _).bZ hba (by rw[hz];exact v5)
 have k0n:cN wc p0 31 (BU):=(jQ hg (fun e=>by injection e with e;have:=HO.o;have:=xR.o;have:=HB.o.size;omega) (K0.o.bZ HB.o aO)).bZ hba aY
 have kk:cB (fun b=>b≠p0∧b≠p5) qa wc:=(cB.fE hg fun b hb e=>by injection e with e;exact hb.2 e).trans (cB.cA hba)
 have hsz:qa.heap.size<wc:=kf.lt
 have Du:=aa (show Below w w wc from(cC (iD.o.trans (HB.o.mono iD.o.size)) hg aO aO).trans (hba.mono aY))
 have yK:=HB.o.size
 have kk2:cB (fun b=>(b≠p0∧b≠p5)∧some b≠some qa.heap.size) qa wc:=⟨kk.1,fun b hb h=>kk.2 b hb h.1⟩
 replace SI:=aa (((SI.o.bZ HB.o).mono (S':=fun b=>(b≠p0∧b≠p5)∧some b≠some qa.heap.size) fun b hb h=>⟨h,fun e=>by injection e with e;omega⟩).keep kk2)
 replace ST:=aa (((ST.o.bZ HB.o).mono (S':=fun b=>(b≠p0∧b≠p5)∧some b≠some qa.heap.size) fun b hb h=>⟨h,fun e=>by injection e with e;omega⟩).keep kk2)
 replace SF:=aa (((SF.o.bZ HB.o).mono (S':=fun b=>(b≠p0∧b≠p5)∧some b≠some qa.heap.size) fun b hb h=>⟨h,fun e=>by injection e with e;omega⟩).keep kk2)
 have OC:=aa (show dO m_ 49 qa.heap.size wc (fun b=>b≠p0∧b≠p5) (bW (bY qa 0) 2 2) [⟨⟨#[97]⟩,⟨#[]⟩,.mk 0 3 ⟨#[]⟩ ⟨#[]⟩ []⟩,⟨⟨#[98]⟩,⟨#[103]⟩,.mk 8 0 ⟨#[]⟩ ⟨#[]⟩ [.mk 3 0 ⟨#[]⟩ ⟨#[103]⟩ [.mk 0 1 ⟨#[103,47,74]⟩ ⟨#[]⟩ []],.mk 1 0 ⟨#[]⟩ ⟨#[105,110]⟩ []]⟩]from XJ (R:=m_) (cs:=[bV ⟨#[97]⟩,bV ⟨#[]⟩,bU 0,bU 3,bV ⟨#[]⟩,bV ⟨#[]⟩,cD]) (ds:=[bV ⟨#[98]⟩,bV ⟨#[103]⟩,bU 8,bU 0,bV ⟨#[]⟩,bV ⟨#[]⟩,bW A32 2 c32]) kf rfl rfl ⟨_,rfl,rP⟩ ⟨_,rfl,di.keep (di.mono E32.o fun b hb h=>⟨h,fun e=>by injection e with e;omega⟩) kk2⟩)
 clear iD HB K5 K0
 replace HS:=aa (fun(W:World) (h:wc.heap.size≤W)=>HS.o W af)
 have iD:=Du
 have HB:=aa (aaf wc wc)
 obtain⟨gc,hgg⟩:∃ g,g=qa.heap.size:=⟨_,rfl⟩
 have Er:=aa (show p5<gc∧gc<wc.heap.size by have:=HO.o;omega)
 rw[← hgg]at SI ST SF OC k5n ⊢
 have K5:=aa k5n
 have K0:=aa k0n
 clear k5n k0n k5 kf kk kk2 hba hg hz hw hsz yK v5 hgg Du E32 xR HLgf
 have xR:=aa (show p5<wc.heap.size by have:=Er.o;omega)
 replace HB:=aa (show Below wc wc wc.drew from⟨rfl,rfl,rfl,aaB _,fun _ _=>rfl⟩)
 have Ux:=K5.o.cell 5
 have HW0:=aa (show w.heap.size≤gc by have:=Er.o;have:=HO.o;omega)
 replace HS:=aa (show ∀ W:World,wc.heap.size≤W→∀ b,W.heap.size≤b→(b≠p0∧b≠p5)∧some b≠some gc from fun W h b hb=>⟨HS.o W h b hb,fun e=>by injection e with e;have:=Er.o;omega⟩)
 refine cV (S:=fun w'=>b_ w' p5 5 (bW (bY gc 0) 2 2)) [0,1,7,11,14] [(0,false),(1,false),(2,true),(3,true),(4,true),(5,true),(6,true),(7,false),(8,true),(9,true),(10,true),(11,false),(12,true),(13,true),(14,false),(15,true)] ah ah aq rfl ah (Ux) ?_
 refine hwr ?_
 refine hwr ?_
 refine hwt fun K hK=>?_
 go_simp
 refine(oV _ _).mono ?_
 rintro e w15 ⟨rfl,hb⟩
 replace HB:=aa (HB.o.trans (hb.mono HB.o.size))
 clear hb
 refine hK.o _ _ (HB.o.cell (p:=bY p5 5) xR.o |>.trans Ux) ?_
 clear hK K
 refine hwt fun K hK=>?_
 go_simp
 refine(oV _ _).mono ?_
 rintro e Rw ⟨rfl,hb⟩
 replace HB:=aa (HB.o.trans (hb.mono HB.o.size))
 clear hb
 refine hK.o _ _ (HB.o.cell (p:=bY p5 5) xR.o |>.trans Ux) ?_
 clear hK K
 refine hwt fun K hK=>?_
 go_simp
 refine(oV _ _).mono ?_
 rintro e w17 ⟨rfl,hb⟩
 replace HB:=aa (HB.o.trans (hb.mono HB.o.size))
 clear hb
 refine hK.o _ _ (HB.o.cell (p:=bY p5 5) xR.o |>.trans Ux) ?_
 clear hK K
 refine hwt fun K hK=>?_
 go_simp
 refine(uh (S:=fun b=>(b≠p0∧b≠p5)∧some b≠some gc) (HS.o _ HB.o.size) rP rP).mono ?_
 rintro e w18 ⟨A41,c41,rfl,h,hb⟩
 replace HB:=aa (HB.o.trans (hb.mono HB.o.size))
 clear hb
 have E41:=aa h
 clear h
 refine hK.o _ _ (HB.o.cell (p:=bY p5 5) xR.o |>.trans Ux) ?_
 clear hK K
 refine hwt fun K hK=>?_
 go_simp
 refine(uh (S:=fun b=>(b≠p0∧b≠p5)∧some b≠some gc) (HS.o _ HB.o.size) rP E41.o).mono ?_
 rintro e w19 ⟨A42,c42,rfl,h,hb⟩
 replace HB:=aa (HB.o.trans (hb.mono HB.o.size))
 replace E41:=aa (di.keep E41.o (cB.cA hb))
 clear hb
 clear E41
 have E42:=aa h
 clear h
 refine hK.o _ _ (HB.o.cell (p:=bY p5 5) xR.o |>.trans Ux) ?_
 clear hK K
 refine hwr ?_
 refine hwt fun K hK=>?_
 go_simp
 refine(oV _ _).mono ?_
 rintro e w20 ⟨rfl,hb⟩
 replace HB:=aa (HB.o.trans (hb.mono HB.o.size))
 replace E42:=aa (di.keep E42.o (cB.cA hb))
 clear hb
 refine hK.o _ _ (HB.o.cell (p:=bY p5 5) xR.o |>.trans Ux) ?_
 clear hK K
 refine hwt fun K hK=>?_
 go_simp
 refine(oU 1 _ _).mono ?_
 rintro e w21 ⟨rfl,hb⟩
 replace HB:=aa (HB.o.trans (hb.mono HB.o.size))
 replace E42:=aa (di.keep E42.o (cB.cA hb))
 clear hb
 refine hK.o _ _ (HB.o.cell (p:=bY p5 5) xR.o |>.trans Ux) ?_
 clear hK K
 refine hwt fun K hK=>?_
 go_simp
 refine(uh (S:=fun b=>(b≠p0∧b≠p5)∧some b≠some gc) (HS.o _ HB.o.size) rP rP).mono ?_
 rintro e VT ⟨A46,c46,rfl,h,hb⟩
 replace HB:=aa (HB.o.trans (hb.mono HB.o.size))
 replace E42:=aa (di.keep E42.o (cB.cA hb))
 clear hb
 have E46:=aa h
 clear h
 refine hK.o _ _ (HB.o.cell (p:=bY p5 5) xR.o |>.trans Ux) ?_
 clear hK K
 refine hwr ?_
 refine hwt fun K hK=>?_
 go_simp
 refine hK.o _ _ (((HB.o.alloc HB.o.size _).cell (p:=bY p5 5) xR.o).trans Ux) ?_
 clear hK K
 refine hwt fun K hK=>?_
 have kn:cN (VT.alloc (.cells #[bV ⟨#[99]⟩,bV ⟨#[103]⟩,bU 6,bU 0,bV ⟨#[]⟩,bV ⟨#[]⟩,bW A42 2 c42,bV ⟨#[100]⟩,bV ⟨#[]⟩,bU 6,bU 0,bV ⟨#[]⟩,bV ⟨#[]⟩,bW A46 2 c46] 49)) VT 49 ([bV ⟨#[99]⟩,bV ⟨#[103]⟩,bU 6,bU 0,bV ⟨#[]⟩,bV ⟨#[]⟩,bW A42 2 c42]++[bV ⟨#[100]⟩,bV ⟨#[]⟩,bU 6,bU 0,bV ⟨#[]⟩,bV ⟨#[]⟩,bW A46 2 c46]):=heap_alloc_new _ _
 have hba:Below VT VT (VT.alloc (.cells #[bV ⟨#[99]⟩,bV ⟨#[103]⟩,bU 6,bU 0,bV ⟨#[]⟩,bV ⟨#[]⟩,bW A42 2 c42,bV ⟨#[100]⟩,bV ⟨#[]⟩,bU 6,bU 0,bV ⟨#[]⟩,bV ⟨#[]⟩,bW A46 2 c46] 49)):=cS _
 have hsz:gc<VT.heap.size:=by have:=Er.o;have:=HB.o.size;omega
 have WK:=aaI VT (.cells #[bV ⟨#[99]⟩,bV ⟨#[103]⟩,bU 6,bU 0,bV ⟨#[]⟩,bV ⟨#[]⟩,bW A42 2 c42,bV ⟨#[100]⟩,bV ⟨#[]⟩,bU 6,bU 0,bV ⟨#[]⟩,bV ⟨#[]⟩,bW A46 2 c46] 49)
 have hN:Sq m_ (VT.alloc (.cells #[bV ⟨#[99]⟩,bV ⟨#[103]⟩,bU 6,bU 0,bV ⟨#[]⟩,bV ⟨#[]⟩,bW A42 2 c42,bV ⟨#[100]⟩,bV ⟨#[]⟩,bU 6,bU 0,bV ⟨#[]⟩,bV ⟨#[]⟩,bW A46 2 c46] 49)) (fun b=>(b≠p0∧b≠p5)∧some b≠some gc) (bY VT 0) [⟨⟨#[99]⟩,⟨#[103]⟩,.mk 6 0 ⟨#[]⟩ ⟨#[]⟩ [.mk 1 0 ⟨#[]⟩ ⟨#[98]⟩ [],.mk 8 0 ⟨#[]⟩ ⟨#[]⟩ [.mk 1 0 ⟨#[]⟩ ⟨#[97]⟩ [],.mk 1 0 ⟨#[]⟩ ⟨#[97,105,114]⟩ []]]⟩,⟨⟨#[100]⟩,⟨#[]⟩,.mk 6 0 ⟨#[]⟩ ⟨#[]⟩ [.mk 1 0 ⟨#[]⟩ ⟨#[97]⟩ [],.mk 0 1 ⟨#[]⟩ ⟨#[]⟩ []]⟩]:=Sq.XH (R:=m_) (cs:=[bV ⟨#[99]⟩,bV ⟨#[103]⟩,bU 6,bU 0,bV ⟨#[]⟩,bV ⟨#[]⟩,bW A42 2 c42]) (ds:=[bV ⟨#[100]⟩,bV ⟨#[]⟩,bU 6,bU 0,bV ⟨#[]⟩,bV ⟨#[]⟩,bW A46 2 c46]) kn ⟨by have:=HO.o;have:=Er.o;omega,fun e=>by injection e with e;omega⟩ ⟨_,rfl,di.keep E42.o (cB.cA hba)⟩ ⟨_,rfl,di.keep E46.o (cB.cA hba)⟩
 have oc:=OC.o.bZ (HB.o.trans (hba.mono HB.o.size))
 refine kL (R:=m_) (S:=fun b=>b≠p0∧b≠p5) (xs:=[⟨⟨#[97]⟩,⟨#[]⟩,.mk 0 3 ⟨#[]⟩ ⟨#[]⟩ []⟩,⟨⟨#[98]⟩,⟨#[103]⟩,.mk 8 0 ⟨#[]⟩ ⟨#[]⟩ [.mk 3 0 ⟨#[]⟩ ⟨#[103]⟩ [.mk 0 1 ⟨#[103,47,74]⟩ ⟨#[]⟩ []],.mk 1 0 ⟨#[]⟩ ⟨#[105,110]⟩ []]⟩]) (ys:=[⟨⟨#[99]⟩,⟨#[103]⟩,.mk 6 0 ⟨#[]⟩ ⟨#[]⟩ [.mk 1 0 ⟨#[]⟩ ⟨#[98]⟩ [],.mk 8 0 ⟨#[]⟩ ⟨#[]⟩ [.mk 1 0 ⟨#[]⟩ ⟨#[97]⟩ [],.mk 1 0 ⟨#[]⟩ ⟨#[97,105,114]⟩ []]]⟩,⟨⟨#[100]⟩,⟨#[]⟩,.mk 6 0 ⟨#[]⟩ ⟨#[]⟩ [.mk 1 0 ⟨#[]⟩ ⟨#[97]⟩ [],.mk 0 1 ⟨#[]⟩ ⟨#[]⟩ []]⟩]) (T:=49) (t:=26) (B:=gc) (by rfl) (.tmp 37) (.tmp 48) 26 rfl (by rfl) WQ oc aG (bY VT 0) 2 2 aG rfl hN.ext ak (by rw[WK];omega) rfl (n:=4) rfl ?_
 intro A9 c9 w9 Ba HG
 have Qo:=HB.o.trans (hba.mono HB.o.size)
 have k9:=aa (jQ HG.o.turn (fun e=>by injection e with e;have e:p5=gc:=e;have:=Er.o;omega) (K5.o.bZ Qo xR.o))
 have k09:=aa (jQ HG.o.turn (fun e=>by injection e with e;have e:p0=gc:=e;have:=Er.o;have:=HO.o;omega) (K0.o.bZ Qo (by have:=Er.o;have:=HO.o;omega)))
 have YD:cB (fun b=>(b≠p0∧b≠p5)∧some b≠some gc) wc w9:=(cB.cA Qo).trans (cB.fE HG.o.turn fun b h=>h.2)
 replace SI:=aa (SI.o.keep YD)
 replace ST:=aa (ST.o.keep YD)
 replace SF:=aa (SF.o.keep YD)
 have SC:=aa (HG.o.own.sq fun b _ h=>by have:=Er.o;have:=HO.o;omega)
 replace iD:=aa ((iD.o.trans (Qo.mono iD.o.size)).grown HG.o.turn (aaC iD.o.size Qo.size) (fun j e=>by injection e with e;have e:gc=j:=e;have:=Er.o;have:=HO.o;have:=HW0.o;omega))
 clear HG hN oc kn hba hsz WK Qo YD
 refine hK.o _ _ (k9.o.cell 5) ?_
 clear hK K
 refine hwr ?_
 refine xN fun K hK=>?_
 have x9:=k9.o.cell
 have f9:=k9.o.frozen
 have v9:p5<w9.heap.size:=k9.o.lt
 go_simp
 refine hK.o _ _ ?_
 clear hK K
 refine eD ?_
 try go_frame
 obtain⟨wd,hw⟩:∃ W,W=w9.setCell (bY p5 5) (bW A9 4 c9):=⟨_,rfl⟩
 rw[← hw]
 have hg:w9.grownBy wd (some p5):=by rw[hw];exact fJ (World.grownBy.refl w9 (some p5)) 5 _
 have K5d:=aa (show cN wd p5 31 [bV ⟨#[109,105,108,108]⟩,cD,bW (bY p2 0) 2 2,bW (bY p4 0) 1 1,bW (bY gf 0) 2 2,bW A9 4 c9,cD,cD,cD] by rw[hw];exact k9.o.eB 5 _)
 have K0d:=aa (jQ hg (fun e=>by injection e with e;have:=HO.o;omega) k09.o)
 have kd:cB (fun b=>b≠p0∧b≠p5) w9 wd:=cB.fE hg fun b hb e=>by injection e with e;exact hb.2 e
 have hpw:w.heap.size≤p0∧w.heap.size≤p5:=by have:=HO.o;omega
 have jy:=aa (cC iD.o hg aac hpw.2)
 clear hw hg x9 f9 v9 k9 k09 Ux
 have x5:=K5d.o.cell
 go_wp2_with (refine cQ rfl 31 _ _ rfl p0 [bV ⟨#[109,105,108,108]⟩,cD,bW (bY p2 0) 2 2,bW (bY p4 0) 1 1,bW (bY gf 0) 2 2,bW A9 4 c9,cD,cD,cD] rfl rfl 31 K0d.o M7 rfl rfl ?_;intro we Ke hge)
 have z:=Ke.o.cell
 have ke:=kd.trans (cB.fE (S:=fun b=>b≠p0∧b≠p5) hge fun b hb e=>by injection e with e;exact hb.1 e)
 have pg:=cC jy.o hge aac hpw.1
 have hI:eo we Any ⟨none,0,bY p2 0,2,bY p4 0,1,bY gf 0,2,A9,c9,none,0,none,0,none,0⟩ Ck.qc:=⟨Sq.nil,((SI.o.mono fun b _ h=>h.1).keep ke).all,((ST.o.mono fun b _ h=>h.1).keep ke).all,((SF.o.mono fun b _ h=>h.1).keep ke).all,(SC.o.keep ke).all,Sq.nil,Sq.nil,Sq.nil⟩
 exact bodyPost_ret (v:= .agg #[bV ⟨#[109,105,108,108]⟩,cD,bW (bY p2 0) 2 2,bW (bY p4 0) 1 1,bW (bY gf 0) 2 2,bW A9 4 c9,cD,cD,cD]) (by simp[results,results22,go_sem,z]) rfl (HP.o _ _ ⟨_,rfl,hI,pg⟩)
end
section
open Go Go.RowKit Go.Maps Go.WideMaps Go.Proofs
section
theorem ij.put {w:World} {b n:Nat} {f:gZ→Option Value} (h:ij w b n f) (hn:n<maxLen) (t e:TypeId) (ht:Tryz.prog.underlying t=some (.map 51 e)) (k:gZ) (u:Value) (hk:gX k):∃ w',(Instr.mapUpdate t (.map (some b)) (.agg #[bU k.1,bV k.2]) u).run prog w= .ok () w'∧ij w' b (n+1) (fun k'=>if k'=k then some u else f k')∧w.grownBy w' (some b):=by
 obtain⟨D,h1,h2,h3⟩:=h;obtain⟨w',hrun,k1,k2⟩:=h1.update ou ht hn (nB hk) (d:= .held u) (ps:=[]) (val:=u) rfl;refine⟨w',hrun,⟨_,k1,?_,fun k' hk'=>?_⟩,k2⟩
 (·obtain⟨es,rfl⟩:=h2;exact⟨_,rfl⟩);by_cases hkk:k'=k
 ·subst hkk;simp only[if_true];refine⟨has_put_same h2 (G8 k') _,fun v z h=>?_,fun z h=>?_⟩
  (·have hv:u=v:=Option.some.inj h;rw[← hv];exact atKey_put_same h2 (G8 k') _ _);exact absurd h ai
 simp only[if_neg hkk];have hne:mN k'≠mN k:=fun e=>hkk (Dt hk' hk e);obtain⟨p1,p2,p3⟩:=h3 k' hk';exact⟨(has_put_other hne _).trans p1,fun v z h=>(atKey_put_other hne _ _).trans (p2 v z h),fun z h=>(atKey_put_other hne _ _).trans (p3 z h)⟩
theorem yR (w:World) {ops:Array Oper} {rest:List Oper} {o:Oper} {a:Act} {Q:Exit→Act→World→Prop} (hg:o.guard=none) (m x v:Operand) (t:TypeId) (hop:o.op=Op.insert t m x v) (e:TypeId) (ht:Tryz.prog.underlying t=some (.map 51 e)) (b n:Nat) (f:gZ→Option Value) (hm:a.eval m= .map (some b)) (hown:ij w b n f) (hn:n<maxLen) (k:gZ) (u:Value) (hx:a.eval x= .agg #[bU k.1,bV k.2]) (hv:a.eval v=u) (hk:gX k) (hK:∀ w',Hid (ij w' b (n+1) (fun k'=>if k'=k then some u else f k'))→w.grownBy w' (some b)→wpList prog ops Q rest (a.put o.dst undef) w'):wpList prog ops Q (o :: rest) a w:=by
 refine wpList_plain hg fun K' hK'=>?_;obtain⟨w',hrun,r1,r2⟩:=hown.put hn t e ht k u hk;unfold Oper.wp;simp[execOp,hop,hm,hx,hv,hrun,Result.andThen];exact hK' _ _ (hK w' (aa r1) r2)
theorem yT (w:World) {ops:Array Oper} {rest:List Oper} {o:Oper} {a:Act} {Q:Exit→Act→World→Prop} (hg:o.guard=none) (m x v:Operand) (t:TypeId) (hop:o.op=Op.mapUpdate t m x v) (e:TypeId) (ht:Tryz.prog.underlying t=some (.map 51 e)) (b n:Nat) (f:gZ→Option Value) (hm:a.eval m= .map (some b)) (hown:ij w b n f) (hn:n<maxLen) (k:gZ) (u:Value) (hx:a.eval x= .agg #[bU k.1,bV k.2]) (hv:a.eval v=u) (hk:gX k) (hK:∀ w',Hid (ij w' b (n+1) (fun k'=>if k'=k then some u else f k'))→w.grownBy w' (some b)→wpList prog ops Q rest (a.put o.dst undef) w'):wpList prog ops Q (o :: rest) a w:=by
 refine wpList_plain hg fun K' hK'=>?_;obtain⟨w',hrun,r1,r2⟩:=hown.put hn t e ht k u hk;unfold Oper.wp;simp[execOp,hop,hm,hx,hv,hrun,Result.andThen];exact hK' _ _ (hK w' (aa r1) r2)
structure yU (B g o c:Nat) (w:World) (xs:List gZ):Prop where
 base:B≤g
 room:xs.length≤c
 most:c≤maxLen
 row:∃ cur:Array Value,w.heap[g]? =some (.cells cur 51 (0,0))∧o+c*2≤cur.size∧(cur.toList.drop o).take (xs.length*2)=xs.flatMap ki
theorem Fu:∀ (xs:List gZ) (i c:Nat) (x:gZ) (u:Value),xs[i]? =some x→(ki x)[c]? =some u→(xs.flatMap ki)[i*2+c]? =some u
 |[],i,c,x,u,h,_=>by simp at h
 |y :: l,0,c,x,u,h,hu=>by
  simp at h;subst h;rw[List.flatMap_cons,Nat.zero_mul,Nat.zero_add,List.getElem?_append_left (List.getElem?_eq_some_iff.1 hu).1];exact hu
 |y :: l,i+1,c,x,u,h,hu=>by
  rw[List.flatMap_cons,List.getElem?_append_right (by show 2≤_;omega)];have:=Fu l i c x u aK hu;rw[show(i+1)*2+c - (ki y).length=i*2+c by show(i+1)*2+c - 2=_;omega];exact this
theorem Qp (xs:List gZ):(xs.flatMap ki).length=xs.length*2:=by
 induction xs with
 |nil=>rfl
 |cons x l ih=>rw[List.flatMap_cons,aao,ih,List.length_cons];show 2+_=_;omega
section
variable {B g o c:Nat} {w w':World} {xs:List gZ}
theorem yU.lt (h:yU B g o c w xs):g<w.heap.size:=by
 obtain⟨cur,h1,_⟩:=h.row;exact(Array.getElem?_eq_some_iff.1 h1).1
theorem yU.block (h:yU B g o c w xs) (hb:w'.heap[g]? =w.heap[g]?):yU B g o c w' xs:=by
 obtain⟨cur,h1,h2⟩:=h.row;exact⟨h.base,h.room,h.most,cur,hb.trans h1,h2⟩
theorem yU.bZ (h:yU B g o c w xs) {B':Nat} (hb:Below B' w w') (hg:g<B'):yU B g o c w' xs:=h.block (hb.block g hg)
theorem yU.alloc (h:yU B g o c w xs) (ob:Obj):yU B g o c (w.alloc ob) xs:=h.block (Below.heap_alloc _ _ g h.lt)
theorem yU.cell (h:yU B g o c w xs) {j:Nat} (hj:j<xs.length):b_ w g (o+j*2) (bU xs[j].1)∧b_ w g (o+j*2+1) (bV xs[j].2):=by
 obtain⟨cur,h1,h2,h3⟩:=h.row;have hk:cN w g 51 cur.toList:=h1;have e:∀ i v,(ki xs[j])[i]? =some v→b_ w g (o+j*2+i) v:=fun i v hv=>by
  have hi:i<2:=(List.getElem?_eq_some_iff.1 hv).1;have h4:=Fu xs j i xs[j] v (List.getElem?_eq_getElem hj) hv;rw[← h3,List.getElem?_take,if_pos af,List.getElem?_drop]at h4;rw[hk.cell,show o+j*2+i=o+(j*2+i) by omega];exact h4
 exact⟨e 0 _ rfl,e 1 _ rfl⟩
theorem yU.tail {x:gZ} (h:yU B g o c w (x :: xs)):yU B g (o+2) (c - 1) w xs:=by
 have hr:=h.room;obtain⟨cur,h1,h2,h3⟩:=h.row;rw[List.length_cons]at hr h3;refine⟨h.base,by omega,by have:=h.most;omega,cur,h1,by omega,?_⟩;rw[List.flatMap_cons]at h3;have h4:=congrArg (List.drop 2) h3;rw[List.drop_append_of_le_length (by show 2≤2;omega),List.drop_take,List.drop_drop]at h4;rw[show(xs.length+1)*2 - 2=xs.length*2 by omega]at h4;rw[h4];rfl
theorem vz {P:Program} (w:World) (t ty e:TypeId) (i:TypeInfo) (ht:P.underlying t=some (.slice e)) (hi:P.info? e=some i) (g o sLen sCap:Nat) (cur:Array Value) (hg:w.heap[g]? =some (.cells cur e (0,0))) (a:Addr) (m c:Nat) (news:List Value) (hl:news.length=m*i.size) (hnews:∀ j u,news[j]? =some u→w.cell? (a.add j)=some u) (h1:∀ u∈news,u.oneCell'=true) (hroom:sLen+m≤sCap) (hfit:o+sLen*i.size+news.length≤cur.size):(Builtin.append_ #[t,t] ty #[bW (bY g o) sLen sCap,bW (some a) m c]).run P w= .ok (bW (bY g o) (sLen+m) sCap) (w.setRow g (cur.toList.take (o+sLen*i.size)++news++cur.toList.drop (o+sLen*i.size+news.length)).toArray):=by
 have hf:=run_firstCells_some (P:=P) w i.size m a m c news hl hnews;have hst:=run_storeCells_at P g (o+sLen*i.size) e news 0 cur w hg (by simpa using hfit) h1;simp only[Nat.add_zero]at hst;have ha:(bY g o:Addr).add (sLen*i.size)=bY g (o+sLen*i.size):=(by rw[Addr.add_lit]);simp[Builtin.append_,run_underlying ht,sizeOf,typeInfo,hi,Builtin.lenOf,hroom,hf,ha,hst]
theorem Dv (h:yU B g o c w xs) (hl:xs.length<1000000) (hB:B≤w.heap.size) (ty:TypeId) (ad:Addr) (cc:Nat) (k:Int) (nm:ByteArray) (hnews:∀ j u,[bU k,bV nm][j]? =some u→w.cell? (ad.add j)=some u):∃ g' o' c' w',(Builtin.append_ #[35,35] ty #[bW (bY g o) xs c,bW (some ad) 1 cc]).run prog w= .ok (bW (bY g' o') (xs.length+1) c') w'∧yU B g' o' c' w' (xs++[(k,nm)])∧w.grownBy w' (some g):=by
 obtain⟨i0,hi,hz0,hz1,hz2⟩:=info_parts (show(Tryz.prog.info? 51).map (fun i=>(i.zero,i.size,i.bytes))=some (some (.agg #[.int .i64 0,bV ByteArray.empty]),2,24) by kernel_rfl);have hlen:=Qp xs;obtain⟨cur,h1,h2,h3⟩:=h.row;have hr:=h.room;have hm:=h.most;(have one:∀ u∈[Value.int .i64 k,bV nm],u.oneCell'=true:=fun u hu=>by simp at hu;rcases hu with rfl|rfl<;>rfl);by_cases hc:xs.length+1≤c
 ·have hrun:=vz (P:=prog) w 35 ty 51 i0 underlying35 hi g o xs.length c cur h1 ad 1 cc [bU k,bV nm] (by rw[hz1];rfl) hnews one hc (by rw[hz1];show o+xs.length*2+2≤_;omega);rw[hz1]at hrun;have hsz:cur.toList.length=cur.size:=Array.length_toList;have hlt:(cur.toList.take (o+xs.length*2)).length=o+xs.length*2:=(by rw[aaq];omega);refine⟨g,o,c,_,hrun,⟨h.base,by rw[aao];exact hc,hm,_,setRow_heap w g cur _ 51 _ h1,?_,?_⟩,⟨rfl,rfl,rfl,by simp,fun b _ hne=>setRow_other w g b _ (fun e=>hne (by rw[e]))⟩⟩
  (·simp only[List.size_toArray,aao,hlt,List.length_drop,List.length_cons,List.length_nil];omega);rw[aao,List.flatMap_append,List.append_assoc,List.drop_append_of_le_length (by rw[hlt];omega),List.drop_take,show o+xs.length*2 - o=xs.length*2 by omega,h3];rw[show(xs.length+[(k,nm)].length)*2=(xs.flatMap ki).length+2 by rw[hlen];show(xs.length+1)*2=_;omega,List.take_append,aax af,show(xs.flatMap ki).length+2 - (xs.flatMap ki).length=2 by omega];rfl
 have holds:∀ j v,(xs.flatMap ki)[j]? =some v→w.cell? ((bY g o:Addr).add j)=some v:=fun j v hv=>by
  have hk:cN w g 51 cur.toList:=h1;(have hj:j<xs.length*2:=by have:=(List.getElem?_eq_some_iff.1 hv).1;omega);rw[← h3,List.getElem?_take,if_pos hj,List.getElem?_drop]at hv;rw[Addr.add_lit,hk.cell];exact hv
 have hrun:=run_append_grow (P:=prog) w 35 ty 51 i0 _ underlying35 hi hz0 (bY g o) xs.length c (xs.flatMap ki) (by rw[hz1];exact hlen) holds ad 1 cc [bU k,bV nm] (by rw[hz1];rfl) hnews af af (growslice_fits af (by rw[hz2];omega));have hge:=grownCap_ge w (xs.length+1) c 51;have hcm:grownCap w (xs.length+1) c 51≤maxLen:=grownCap_le_maxLen w (xs.length+1) c 51 aH;refine⟨_,_,_,_,hrun,⟨hB,by rw[aao];exact hge,hcm,_,heap_alloc_new w.drew _,?_,?_⟩,⟨rfl,rfl,rfl,by simp,fun b hb _=>heap_alloc_old w.drew _ hb⟩⟩
 (·simp only[Array.size_append,List.size_toArray,size_zeroCells,hlen,List.length_cons,List.length_nil];show 0+_≤xs.length*2+2+(_ - (xs.length+1))*2;omega);simp only[Array.toList_append,List.drop_zero,List.append_assoc,aao];rw[show(xs.length+[(k,nm)].length)*2=(xs.flatMap ki).length+2 by rw[hlen];show(xs.length+1)*2=_;omega,List.take_append,aax af,show(xs.flatMap ki).length+2 - (xs.flatMap ki).length=2 by omega,List.flatMap_append];rfl
theorem xE {ops:Array Oper} {rest:List Oper} {op:Oper} {a:Act} {Q:Exit→Act→World→Prop} (hgd:op.guard=none) (s x:Operand) (ho:op.op= .call {callee:= .builtin .append,args:=#[s,x],argTypes:=#[35,35]}) (h:yU B g o c w xs) {n:Nat} (hn:xs.length=n) (hs:a.eval s=bW (bY g o) n c) (hl:n<1000000) (hB:B≤w.heap.size) (ad:Addr) (cc:Nat) (hx:a.eval x=bW (some ad) 1 cc) (k:Int) (nm:ByteArray) (hnews:∀ j u,[bU k,bV nm][j]? =some u→w.cell? (ad.add j)=some u) (hK:∀ g' o' c' w',Hid (yU B g' o' c' w' (xs++[(k,nm)]))→w.grownBy w' (some g)→wpList prog ops Q rest (a.put op.dst (bW (bY g' o') (n+1) c')) w'):wpList prog ops Q (op :: rest) a w:=by
 subst hn;refine wpList_plain hgd fun K' hK'=>?_;obtain⟨g',o',c',w',hr,h1,h2⟩:=Dv h hl hB op.type ad cc k nm hnews;unfold Oper.wp execOp;simp only[ho,resolve,invoke,builtin,Sem.run_bind,Sem.run_pure,Result.andThen_ok,List.map_toArray,List.map_cons,List.map_nil,hs,hx,hr];exact hK' _ _ (hK g' o' c' w' (aa h1) h2)
theorem yU.made (B:Nat) (w:World) (hB:B≤w.heap.size) (k:Int) (nm:ByteArray):yU B w 0 1 (w.alloc (.cells #[bU k,bV nm] 51)) [(k,nm)]:=
 ⟨hB,aaB _,by unfold maxLen;omega,_,heap_alloc_new w _,aaB _,rfl⟩
end
end
end
open Go Go.RowKit Bg Go.Proofs Sh Kb Ln
section
theorem M8 {σ:Type} {R:σ→Prop} (m:σ→Nat):∀ (n:Nat) (s:σ),m s=n→R s→∃ k,(∃ s,R s∧m s=k)∧∀ s,R s→k≤m s:=by
 intro n;induction n using Nat.strongRecOn with
 |_ n ih=>
  intro s hs hR;by_cases h:∃ s',R s'∧m s'<n
  (·obtain⟨s',h1,h2⟩:=h;exact ih _ h2 s' rfl h1);exact⟨n,⟨s,hR,hs⟩,fun s' h1=>Nat.le_of_not_lt fun h2=>h ⟨s',h1,h2⟩⟩
open Classical in
noncomputable def Uy {σ:Type} (R:σ→Value→World→Prop) (m:σ→Nat) (v:Value) (w:World):Nat:=if h:∃ k,(∃ s,R s v w∧m s=k)∧∀ s,R s v w→k≤m s then Classical.choose h else 0
def Best {σ:Type} (R:σ→Value→World→Prop) (m:σ→Nat) (v:Value) (w:World):Prop:=∃ s,R s v w∧m s=Uy R m v w
theorem G_ {σ:Type} {R:σ→Value→World→Prop} (m:σ→Nat) {v:Value} {w:World} {s:σ} (h:R s v w):Best R m v w∧Uy R m v w≤m s:=by
 have he:∃ k,(∃ s,R s v w∧m s=k)∧∀ s,R s v w→k≤m s:=M8 (R:=fun s=>R s v w) m _ s rfl h;have hs:=Classical.choose_spec he;have e:Uy R m v w=Classical.choose he:=(by unfold Uy;rw[dif_pos he]);refine⟨?_,by rw[e];exact hs.2 s h⟩;obtain⟨s',h1,h2⟩:=hs.1;exact⟨s',h1,by rw[e];exact h2⟩
theorem Fv (y:eN):∀ (l L:List eN),kH L (l++[y])=if y∈kH L l then kH L l else kH L l++[y]
 |[],L=>rfl
 |x :: l,L=>by
  rw[List.cons_append,kH,Fv y l];rfl
open Classical in
noncomputable def lW (L:List eN) (z:eN):Option Value:=if z∈L then some (.bool true)else none
theorem Qq (L:List eN) (y:eN):(fun k'=>if k'=y then some (Value.bool true)else lW L k')=lW (L++[y]):=by
 funext k;unfold lW;by_cases h:k=y
 (·subst h;simp);by_cases h2:k∈L<;>simp[h,h2]
theorem Uz {B g o c:Nat} {w:World} {x:eN} {xs:List eN} (h:yU B g o c w (x :: xs)):∃ o',(if c=1 then some (bY g o:Addr)else (bY g (o+2)))=bY g o'∧yU B g o' (c - 1) w xs:=by
 by_cases hc:c=1
 (·subst hc;have hr:=h.room;rw[List.length_cons]at hr;have hx:xs=[]:=List.eq_nil_of_length_eq_zero af;subst hx;obtain⟨cur,h1,h2,h3⟩:=h.row;exact⟨o,if_pos rfl,h.base,aaB _,aaG _,cur,h1,by omega,by simp⟩);exact⟨o+2,if_neg hc,h.tail⟩
def Dw (w:World) (gm:Nat) (gg:eN→List eN):Prop:=∃ n G,ij w gm n G∧∀ z,gX z→∃ A c,(G z).getD cD=bW A (gg z).length c∧Sq dI w Any A (gg z)
theorem Dw.bZ {w w':World} {gm:Nat} {gg:eN→List eN} (h:Dw w gm gg) (hb:Below w w w'):Dw w' gm gg:=by
 obtain⟨n,G,h1,h2⟩:=h;refine⟨n,G,h1.bZ hb h1.lt,fun z hz=>?_⟩;obtain⟨A,c,e,hs⟩:=h2 z hz;exact⟨A,c,e,hs.bZ hb⟩
theorem Dw.look {w:World} {gm:Nat} {gg:eN→List eN} (h:Dw w gm gg) {z:eN} (hz:gX z):∃ A c,(Instr.lookup 71 (.map (some gm)) (.agg #[bU z.1,bV z.2]) false).run prog w= .ok (bW A (gg z).length c) w∧Sq dI w Any A (gg z):=by
 obtain⟨n,G,h1,h2⟩:=h;obtain⟨A,c,e,hs⟩:=h2 z hz;refine⟨A,c,?_,hs⟩;rw[h1.look underlying71 (y:=bW none 0 0) ah hz,e]
theorem Dw.look2 {w:World} {gm:Nat} {gg:eN→List eN} (h:Dw w gm gg) {z:eN} (hz:gX z):∃ A c,(∀ w',Below w w w'→(Instr.lookup 71 (.map (some gm)) (.agg #[bU z.1,bV z.2]) false).run prog w'= .ok (bW A (gg z).length c) w')∧Sq dI w Any A (gg z):=by
 obtain⟨n,G,h1,h2⟩:=h;obtain⟨A,c,e,hs⟩:=h2 z hz;refine⟨A,c,fun w' hb=>?_,hs⟩;rw[(h1.bZ hb h1.lt).look underlying71 (y:=bW none 0 0) ah hz,e]
theorem yV {w:World} {b n:Nat} {L:List eN} (h:ij w b n (lW L)) {z:eN} (hz:gX z) {r:Bool} (hr:r=true↔z∈L):(Instr.lookup 78 (.map (some b)) (.agg #[bU z.1,bV z.2]) false).run prog w= .ok (.bool r) w:=by
 rw[h.look underlying78 (y:= .bool false) ah hz];unfold lW;by_cases hm:z∈L
 (·rw[if_pos hm,hr.2 hm];rfl);(have:r=false:=by cases r;rfl;exact absurd (hr.1 rfl) hm);rw[if_neg hm,this];rfl
theorem Es (w:World) (x y:Value) (t:TypeId):∀ j u,[x,y][j]? =some u→(w.alloc (.cells #[x,y] t)).cell? ((bY w 0:Addr).add j)=some u:=by
 intro j u hj;have hk:cN (w.alloc (.cells #[x,y] t)) w t [x,y]:=heap_alloc_new w _;rw[Addr.add_lit,Nat.zero_add,hk.cell];exact hj
def FrmR (gg:eN→List eN) (U:List eN) (a:eN) (p b:Nat) (w:World) (s:Nat×List eN) (v:Value) (wr:World):Prop:=
 ∃ g o c m,v=bW (bY g o) m c∧Hid ((s.2.drop s.1).length=m)∧Hid (yU (p+2) g o c wr (s.2.drop s.1))∧Hid (ij wr b s.2.length (lW s.2))∧Hid (Inv gg a s.1 s.2)∧Hid (s.1≤s.2.length)∧Hid (P4 gg (U.length - s.1) s.1 s.2=from_ gg U.length a)∧Hid (Below w w wr)∧Hid (p+2≤wr.heap.size)
def J8 (L:List eN) (w:World) (e:Ending) (w':World):Prop:=∃ b,e= .returned (.map (some b))∧ij w' b L.length (lW L)∧w.heap.size≤b∧Below w w w'
theorem Fw (gm:Nat) (gg:eN→List eN) (U:List eN) (hU:∀ x,∀ y∈gg x,y∈U) (hUk:∀ x∈U,gX x) (hUl:U.length≤100000) (hrow:∀ x,(gg x).length≤1000000) (a1:Int) (a2:ByteArray) (ha:(a1,a2)∈U) (w:World) (hG:Dw w gm gg):Calls prog 29 #[.map (some gm),.agg #[bU a1,bV a2]] w (J8 (from_ gg U.length (a1,a2)) w):=by
 generalize hP:J8 (from_ gg U.length (a1,a2)) w=P
 have HP:=aa (show ∀ e w',J8 (from_ gg U.length (a1,a2)) w e w'→P e w' from fun e w' h=>hP▸h)
 clear hP
 have hka:gX (a1,a2):=hUk _ ha
 have HSub:=aa (fun k L (I:Inv gg (a1,a2) k L)=>I.sub ha hU)
 have HUk:=aa hUk
 have HU:=aa hU
 have HUl:=aa hUl
 have rV:=aa hrow
 have HG:=aa hG
 clear ha hU hUk hUl hrow hG
 go_enter func29,ntmps29
 go_upto_region 1 with fail
 have K0:=aa (show cN (w.alloc (.cells #[bU a1,bV a2] 51)) w 51 [bU a1,bV a2]from heap_alloc_new w _)
 have HB:=aa ((aaf w w).alloc aac (.cells #[bU a1,bV a2] 51))
 have DU:=aa (aaI w (.cells #[bU a1,bV a2] 51))
 generalize w.alloc (.cells #[bU a1,bV a2] 51)=w1 at K0 HB DU ⊢
 have x0:=(K0.o.alloc (.map #[] 0)).cell
 have hmm:=@run_makeMap prog
 go_upto_region 2 with(refine yR _ rfl _ _ _ _ rfl 4 underlying78 w1 0 (fun _=>none) rfl (ij.made w1) aH (a1,a2) (.bool true) rfl rfl hka ?_;intro w2 HM hg2)
 obtain⟨p,hp⟩:∃ p,p=w.heap.size:=⟨_,rfl⟩
 obtain⟨b,hb⟩:∃ b,b=w1.heap.size:=⟨_,rfl⟩
 have uu:=aa hp
 have M9:=aa (show b=p+1 by rw[hb,hp];exact DU.o)
 have G2:=aa (show ij w2 b 1 (lW [(a1,a2)]) by
  have e:(fun k'=>if k'=(a1,a2)then some (.bool true)else none:eN→Option Value)=lW [(a1,a2)]:=(by funext k;unfold lW;by_cases h:k=(a1,a2)<;>simp[h]);have:=HM.o;rw[e]at this;rw[hb];exact this)
 have dG:=aa (show Below w w w2 from(HB.o.alloc HB.o.size (.map #[] 0)).grown hg2 (by rw[aaI];have:=HB.o.size;omega) (fun j e=>by cases e;exact HB.o.size))
 have K2:=aa (show cN w2 p 51 [bU a1,bV a2] by rw[hp];exact jQ hg2 (fun e=>by injection e with e;have:=DU.o;omega) (K0.o.alloc (.map #[] 0)))
 have fh:=aa (show p+2≤w2.heap.size by have:=hg2.size;rw[aaI]at this;have:=M9.o;omega)
 rw[← hp, ← hb]
 clear HM hg2 K0 HB DU hp hb x0 hmm
 have x2:=K2.o.cell
 go_wp2_with fail
 have HQ:=aa (yU.made (p+2) w2 fh.o a1 a2)
 replace G2:=aa (G2.o.alloc (.cells #[bU a1,bV a2] 51))
 replace dG:=aa (dG.o.alloc dG.o.size (.cells #[bU a1,bV a2] 51))
 replace fh:=aa (show p+2≤(w2.alloc (.cells #[bU a1,bV a2] 51)).heap.size by rw[aaI];have:=fh.o;omega)
 clear x2 K2
 go_loopw [6] (fun v wr=>Best (FrmR gg U (a1,a2) p b w) (fun s=>U.length - s.1) v wr) (fun v wr=>Uy (FrmR gg U (a1,a2) p b w) (fun s=>U.length - s.1) v wr)
 case atStart=>exact(G_ (s:=(0,[(a1,a2)])) _ ⟨_,0,1,1,rfl,aa rfl,HQ,G2,aa (Inv.start gg (a1,a2)),aa (aaG _),aa rfl,dG,fh⟩).1
 case round=>
  clear HQ G2 dG fh;obtain⟨⟨j,L⟩,⟨g,o,c,m,rfl,Hm,HQ,HM,HI,Hj,HF,HB,fh⟩,hmin⟩:=hrel;have HMin:=aa hmin;clear hmin;dsimp only at Hm HQ HM HI Hj HF;by_cases hjl:j<L.length;case pos=>
   have hd:L.drop j=L[j] :: L.drop (j+1):=aah hjl;have Cr:m=(L.drop (j+1)).length+1:=(by rw[← Hm.o,hd];rfl);have hc:=HQ.o.room;rw[hd]at hc;have hcx:=HQ.o.cell (j:=0) (by rw[hd];exact Nat.succ_pos _);have hmem:=aan hjl;have Yj:=aa (HSub.o j L HI.o);have hkz:=HUk.o _ (Yj.o.1 _ hmem);have hstep:=TE (g:=gg) (f:=U.length - j - 1) hjl;have hlen:=Yj.o.2;rw[show U.length - j - 1+1=U.length - j by omega,HF.o]at hstep;have UA:=aa hstep;have HInv:=aa (HI.o.step hjl);obtain⟨A,ca,UB,rZ⟩:=HG.o.look2 hkz;have OP:=UB wr HB.o;clear UB;have lI:=aa rZ;have Xr:=aa (rV.o L[j]);have e0:(L.drop j)[0]'(by rw[hd];exact Nat.succ_pos _)=L[j]:=ai;rw[e0]at hcx;generalize L[j]=z at hcx hkz UA HInv OP lI Xr hd;obtain⟨z1,z2⟩:=z;dsimp only at hcx OP;obtain⟨cx0,cx1⟩:=hcx;rw[show o+0*2=o by omega]at cx0 cx1;obtain⟨row,hrw⟩:∃ row,row=gg (z1,z2):=⟨_,rfl⟩;rw[← hrw]at UA HInv OP lI Xr;have HUr:=aa (show ∀ y∈row,y∈U from fun y hy=>HU.o (z1,z2) y (hrw▸hy));obtain⟨nr,hnr⟩:∃ nr,nr=row.length:=⟨_,rfl⟩;have HNr:=aa hnr;rw[← hnr]at OP;have HAdd:=aa (show ∀ k,(kH L (row.take k)).length≤U.length∧(∀ y∈kH L (row.take k),y∈U)∧∃ t,kH L (row.take k)=L++t from fun k=>by
    have hs:∀ y∈kH L (row.take k),y∈U:=fun y hy=>by
     rcases(Db _ _).1 hy with h|h
     (·exact Yj.o.1 y h);exact HUr.o y (List.mem_of_mem_take h)
    obtain⟨t,ht,_⟩:=sY (row.take k) L;exact⟨ot (rC _ _ HI.o.nodup) hs,hs,t,ht⟩)
   have hm0:((m:Int)>0):=af;clear hstep rZ hmem hlen hrw hnr e0 hm0 hkz;have hmp:0<m:=af;have HM1:=aa Cr;clear Cr;have hnb:nr≤1000000:=(by rw[HNr.o];exact Xr.o);go_wp2;go_loopw [6,25] (fun v s25 wi=>∃ (k g' o' c' m':Nat),k≤nr∧s25=bU (k:Int)∧v=bW (bY g' o') m' c'∧Hid (((kH L (row.take k)).drop j).length=m')∧Hid (yU (p+2) g' o' c' wi ((kH L (row.take k)).drop j))∧Hid (ij wi b (kH L (row.take k)).length (lW (kH L (row.take k))))∧Hid (Below w w wi)∧Hid (p+2≤wi.heap.size)) (fun _ s25 _=>nr - (intOf s25).toNat);(case atStart=>exact⟨0,g,o,c,m,aaG _,rfl,rfl,aa (by rw[List.take_zero,kH];exact Hm.o),aa (by rw[List.take_zero,kH];exact HQ.o),aa (by rw[List.take_zero,kH];exact HM.o),HB,fh⟩);obtain⟨k,g',o',c',m',hk,rfl,rfl,YP,F3,G2,dG,XK⟩:=hrel;obtain⟨L2,hL2⟩:∃ L2,L2=kH L (row.take k):=⟨_,rfl⟩;have HL2:=aa hL2;have M_:=HAdd.o k;rw[← hL2]at YP F3 G2 M_;clear hL2;by_cases hlt:k<nr;case pos=>
    (have nO:k<row.length:=by have:=HNr.o;omega);obtain⟨bl,ol,cs,hA,_,hbl,hcs,cM⟩:=(lI.o.bZ dG.o).get nO;subst hA;have hcs:cs=[bU row[k].1,bV row[k].2]:=hcs;subst hcs;(have c0:b_ wr bl (ol+k*2) (bU row[k].1):=by have:=cM 0 _ rfl;rwa [show ol+k*dI.k+0=ol+k*2 by rfl]at this);have c1:b_ wr bl (ol+k*2+1) (bV row[k].2):=cM 1 _ rfl;have hky:=HUk.o _ (HUr.o _ (aan nO));have OH:row.take (k+1)=row.take k++[row[k]]:=aaz nO;have nZ:=aa (show kH L (row.take (k+1))=if row[k]∈L2 then L2 else L2++[row[k]] by rw[OH,Fv, ← HL2.o]);generalize row[k]=y at c0 c1 hky nZ;obtain⟨y1,y2⟩:=y;dsimp only at c0 c1;have hjL:j≤L2.length:=by
     obtain⟨t2,ht2⟩:=M_.2.2;rw[ht2,aao];have:=Hj.o;omega
    have hu2:=M_.1;have D9:=HUl.o;have HML:=aa (show m'<1000000∧L2.length<1000000 by have:=YP.o;rw[List.length_drop]at this;omega);have KB:=aa (show cN (wr.alloc (.cells #[bU y1,bV y2] 51)) wr 51 [bU y1,bV y2]from heap_alloc_new wr _);have Du:=aa (dG.o.alloc dG.o.size (.cells #[bU y1,bV y2] 51));have HMn:=aa (G2.o.alloc (.cells #[bU y1,bV y2] 51));have HQn:=aa (F3.o.alloc (.cells #[bU y1,bV y2] 51));have vL:=aa (show p+2≤(wr.alloc (.cells #[bU y1,bV y2] 51)).heap.size by rw[aaI];have:=XK.o;omega);have HQlt:=aa F3.o.lt;clear cM OH M_ hu2 D9 hbl;go_upto_region 8 with fail;have HWs:=aa (aaI wr (.cells #[bU y1,bV y2] 51));generalize wr.alloc (.cells #[bU y1,bV y2] 51)=wx at KB Du HMn HQn vL HWs ⊢;clear c0 c1;have xb:=KB.o.cell;by_cases hin:(y1,y2)∈L2;(case pos=>have hlk:=yV HMn.o hky (r:=true) (by simp[hin]);have HT:=aa (show kH L (row.take (k+1))=L2 by rw[nZ.o,if_pos hin]);clear hin;dsimp only at hlk;go_wp2;go_roundw;exact⟨k+1,g',o',c',m',by omega,rfl,rfl,aa (by rw[HT.o];exact YP.o),aa (by rw[HT.o];exact HQn.o),aa (by rw[HT.o];exact HMn.o),Du,vL⟩;simp[intOf];omega);have hlk:=yV HMn.o hky (r:=false) (by simp[hin]);have HT:=aa (show kH L (row.take (k+1))=L2++[(y1,y2)] by rw[nZ.o,if_neg hin]);have HDr:=aa (show(L2++[(y1,y2)]).drop j=L2.drop j++[(y1,y2)]from List.drop_append_of_le_length hjL);clear hin hjL;dsimp only at hlk;go_upto_region 10 with(refine yT _ rfl _ _ _ _ rfl 4 underlying78 b L2.length (lW L2) rfl HMn.o (by have:=HML.o;unfold maxLen;omega) (y1,y2) (.bool true) rfl rfl hky ?_;intro w2 Fl hg3);clear hlk xb;(have Mw:b<w.heap.size+2:=by have:=M9.o;have:=uu.o;omega);(have D8:some g'≠some b:=fun e=>by injection e with e;have:=HQn.o.base;have:=M9.o;omega);have Tj:=aa (HQn.o.block (hg3.block g' HQn.o.lt D8));have HM4:=aa (show ij w2 b (L2++[(y1,y2)]).length (lW (L2++[(y1,y2)])) by have:=Fl.o;rw[Qq]at this;rw[aao];exact this);have KB3:=aa (jQ hg3 (fun e=>by injection e with e;have:=M9.o;have:=XK.o;omega) KB.o);have eF:=aa (show Below w w w2 from Du.o.grown hg3 Du.o.size (fun j e=>by cases e;have:=M9.o;have:=uu.o;omega));have HLe3:=aa (show p+2≤w2.heap.size from aaC vL.o hg3.size);clear hg3 Fl Mw D8 HQn HMn Du KB vL;have xb:=KB3.o.cell;go_wp2_with (at_builtin;refine xE (B:=p+2) rfl (.tmp 35) (.tmp 37) rfl (Tj.o.alloc (.cells #[bU y1,bV y2] 51)) YP.o rfl ?hl ?hB (bY w2 0) 1 rfl y1 y2 (Es _ _ _ _) ?_);(case hl=>have:=HML.o;omega);(case hB=>rw[aaI];have:=HLe3.o;omega);intro g4 o4 c4 w4 HQ4 hg4;(have hgb:b<p+2:=by have:=M9.o;omega);have hgq:p+2≤g':=Tj.o.base;have J2:=aa (show ij w4 b (L2++[(y1,y2)]).length (lW (L2++[(y1,y2)]))from(HM4.o.alloc (.cells #[bU y1,bV y2] 51)).block (hg4.block b (HM4.o.alloc (.cells #[bU y1,bV y2] 51)).lt (fun e=>by injection e with e;omega)));have dF:=aa (show Below w w w4 from(eF.o.alloc eF.o.size (.cells #[bU y1,bV y2] 51)).grown hg4 (by rw[aaI];have:=eF.o.size;omega) (fun j e=>by cases e;have:=uu.o;omega));have HLe5:=aa (show p+2≤w4.heap.size by have:=hg4.size;rw[aaI]at this;have:=HLe3.o;omega);have Hm5:=aa (show((L2++[(y1,y2)]).drop j).length=m'+1 by rw[HDr.o,aao,YP.o];rfl);clear hg4 xb hgb hgq;go_wp2;go_roundw;exact⟨k+1,g4,o4,c4,m'+1,by omega,rfl,rfl,aa (by rw[HT.o];exact Hm5.o),aa (by rw[HT.o,HDr.o];exact HQ4.o),aa (by rw[HT.o];exact J2.o),dF,HLe5⟩;simp[intOf];omega
   case neg=>
    obtain rfl:k=nr:=by omega
    have hfull:row.take k=row:=aax (by have:=HNr.o;omega)
    have hle2:=M_.1
    obtain⟨t2,ht2⟩:=M_.2.2
    have hcq:=F3.o.room
    have hlen2:(L2.drop j).length=L2.length - j:=List.length_drop
    have hl2:j+1≤L2.length:=by rw[ht2,aao];omega
    have Zz:=aa hl2
    have hcc:m'≤c':=by have:=YP.o;omega
    have hm':1≤m':=by have:=YP.o;omega
    have hc63:=F3.o.most
    have hd2:L2.drop j=L2[j] :: L2.drop (j+1):=aah af
    have hq2:=F3.o
    rw[hd2]at hq2
    have Tj:=aa (Uz hq2)
    have UC:=aa (show P4 gg (U.length - j - 1) (j+1) L2=from_ gg U.length (a1,a2) by rw[HL2.o,hfull];exact UA.o.symm)
    have YQ:=aa (show Inv gg (a1,a2) (j+1) L2 by rw[HL2.o,hfull];exact HInv.o)
    have BB:=aa (show(L2.drop (j+1)).length=m' - 1 by have:=YP.o;rw[List.length_drop]at*;omega)
    have HU3:=aa hle2
    clear hfull M_ ht2 hlen2 hl2 hd2 hq2 hle2 hcq
    unfold maxLen at hc63
    clear hlt hk hmp
    go_wp2_with fail
    obtain⟨o3,he3,WO⟩:=Tj.o
    rw[he3]
    replace Tj:=aa WO
    clear he3 WO
    go_roundw
    case rel=>exact(G_ (s:=(j+1,L2)) _ ⟨g',_,_,_,rfl,BB,Tj,G2,YQ,Zz,aa (by rw[Nat.sub_add_eq];exact UC.o),dG,XK⟩).1
    case measure=>
     have hb:=(G_ (R:=FrmR gg U (a1,a2) p b w) (s:=(j+1,L2)) (fun s=>U.length - s.1) ⟨g',_,_,_,rfl,BB,Tj,G2,YQ,Zz,aa (by rw[Nat.sub_add_eq];exact UC.o),dG,XK⟩).2;have hm:=HMin.o;have:=Zz.o;have:=HU3.o;dsimp only at hb hm;omega
  (have hm0:m=0:=by have:=Hm.o;rw[List.length_drop]at this;omega);have HE:=aa (show L=from_ gg U.length (a1,a2) by rw[← HF.o,Xa af]);subst hm0;clear hjl;go_wp2;exact HP.o (.returned (.map (some b))) _ ⟨b,rfl,by rw[← HE.o];exact HM.o,by have:=M9.o;have:=uu.o;omega,HB.o⟩
end
end Go.Proofs.YtfppbjfnllhgcaaGreat
namespace Ln
open Kb Sh
section
def Dx (a b:eN):Prop:=a.1<b.1∨a.1=b.1∧a.2.data.toList<b.2.data.toList
instance (a b:eN):Decidable (Dx a b):=by unfold Dx;infer_instance
theorem oW (a:eN):¬Dx a a:=by
 rintro(h|⟨_,h⟩)
 (·omega);exact List.lt_irrefl _ h
theorem yX {a b c:eN} (h1:Dx a b) (h2:Dx b c):Dx a c:=by
 unfold Dx at*;rcases h1 with h1|⟨e1,h1⟩
 ·rcases h2 with h2|⟨e2,h2⟩
  (·exact .inl af);exact .inl af
 rcases h2 with h2|⟨e2,h2⟩
 (·exact .inl af);exact .inr ⟨by omega,List.lt_trans h1 h2⟩
theorem OQ:∀ {l m:List eN},l.Pairwise Dx→m.Pairwise Dx→(∀ x,x∈l↔x∈m)→l=m
 |[],[],_,_,_=>rfl
 |[],b :: m,_,_,h=>absurd ((h b).2 (.head _)) ai
 |a :: l,[],_,_,h=>absurd ((h a).1 (.head _)) ai
 |a :: l,b :: m,hl,hm,h=>by
  obtain⟨l1,l2⟩:=List.pairwise_cons.1 hl;obtain⟨m1,m2⟩:=List.pairwise_cons.1 hm;have hab:a=b:=by
   rcases aas.1 ((h a).1 (.head _))with e|h1
   (·exact e);rcases aas.1 ((h b).2 (.head _))with e|h2
   (·exact e.symm);exact absurd (yX (l1 b h2) (m1 a h1)) (oW a)
  subst hab;congr 1;refine OQ l2 m2 fun x=>⟨fun hx=>?_,fun hx=>?_⟩
  ·rcases aas.1 ((h x).1 (.tail _ hx))with e|h1
   (·exact absurd (e▸l1 x hx) (oW _));exact h1
  rcases aas.1 ((h x).2 (.tail _ hx))with e|h1
  (·exact absurd (e▸m1 x hx) (oW _));exact h1
structure Hf (s:cK) (nm:ByteArray) (l:List eN):Prop where
 asc:l.Pairwise Dx
 mem:∀ x,x∈l↔x∈vh s nm
theorem Hf.uniq {s:cK} {nm:ByteArray} {l m:List eN} (h:Hf s nm l) (k:Hf s nm m):l=m:=OQ h.asc k.asc fun x=>(h.mem x).trans (k.mem x).symm
theorem UD {s:cK} {nm:ByteArray} {l m:List eN} (h:Hf s nm l) (e:vh s nm=m) {k:List eN} (h1:k.Pairwise Dx) (h2:k.Perm m):l=k:=
 h.uniq ⟨h1,fun x=>by rw[e];exact h2.mem_iff⟩
def hasB (l:List eN) (c:Int) (nm:ByteArray):Bool:=l.any fun z=>z.1==c&&z.2==nm
theorem xF {l:List eN} {c:Int} {nm:ByteArray}:hasB l c nm=true↔(c,nm)∈l:=by
 unfold hasB;rw[List.any_eq_true];constructor
 (·rintro⟨z,hz,h⟩;rw[Bool.and_eq_true]at h;have e:z=(c,nm):=Prod.ext (eq_of_beq h.1) (eq_of_beq h.2);exact e▸hz);intro h;exact⟨_,h,by simp⟩
def UE (s:cK) (x:eN):List Nat:=(List.range s.cells.length).filter fun i=>match s.cells[i]? with
 |some c=>decide (x∈vh s c.name)
 |none=>false
open Ck in
theorem ex_l1 {l:List eN} (h:Hf qc (bs [98]) l):l=[(1,bs [105,110]),(2,bs [103,114,105,100]),(3,bs [102]),(3,bs [103]),(4,bs [98])]:=
 UD h ex_on1 (by decide+kernel) (by decide+kernel)
open Ck in
theorem ex_l3 {l:List eN} (h:Hf qc (bs [100]) l):l=[(4,bs [97]),(4,bs [100])]:=UD h ex_on3 (by decide+kernel) (by decide+kernel)
open Ck in
theorem OS:UE qc (4,bs [120])=[]∧UE qc (1,bs [97,105,114])=[2]∧UE qc (4,bs [97])=[0,2,3]∧UE qc (2,bs [103,114,105,100])=[1,2]:=by decide+kernel
section
variable {s:cK} (A:Oz s) {c:fD} (hc:c∈s.cells) {l:List eN} (hl:Hf s c.name l)
include A hc hl
omit A in
theorem Qr:hasB l 4 c.name=true:=xF.2 ((hl.mem _).2 (Xb hc))
theorem Qs {x:eN} (hx:x∈kT s):hasB l x.1 x.2=(decide (x=(4,c.name))||l.any fun y=>jk s y x):=by
 rw[Bool.eq_iff_iff,xF,hl.mem,Bool.or_eq_true,decide_eq_true_eq,List.any_eq_true];rw[show((x.1,x.2):eN)=x from rfl,on_iff A hc hx];constructor
 ·rintro(h|⟨y,h1,h2⟩)
  (·exact .inl h);exact .inr ⟨y,(hl.mem y).2 h1,h2⟩
 rintro(h|⟨y,h1,h2⟩)
 (·exact .inl h);exact .inr ⟨y,(hl.mem y).1 h1,h2⟩
theorem J9 {d:fD} (hd:d∈s.cells) (hn:ez 4 d.name c.kY=true) {m:List eN} (hm:Hf s d.name m) {x:eN} (hx:x∈m):hasB l x.1 x.2=true:=
 xF.2 ((hl.mem _).2 (TH A hc hd hn ((hm.mem x).1 hx)))
end
theorem UF {s:cK} {i:Nat} (hi:i<s.cells.length) {l:List eN} (hl:Hf s s.cells[i].name l) (x:eN):((UE s x).any fun j=>j==i)=hasB l x.1 x.2:=by
 rw[Bool.eq_iff_iff,List.any_eq_true,xF,hl.mem];unfold UE;constructor
 (·rintro⟨j,hj,e⟩;have e:=eq_of_beq e;subst e;rw[List.mem_filter,List.getElem?_eq_getElem hi]at hj;exact of_decide_eq_true hj.2);intro h;refine⟨i,?_,by simp⟩;rw[List.mem_filter,List.getElem?_eq_getElem hi];exact⟨List.mem_range.2 hi,decide_eq_true h⟩
section
variable {s:cK} (hs:Ck.ia s=0) {i k:Nat} (hi:i<s.cells.length) (hk:k<s.cells.length) {l:List eN} (hl:Hf s s.cells[i].name l)
include hs
end
end
end Ln
namespace Go.Proofs.YtfppbjfnllhgcaaGreat
section
open Go Go.RowKit Bg Go.Proofs Sh Kb
theorem Dy (A A':Option Addr) (c c':Nat) (l l':List Nat) (w:World) (h:Sq jV w Any A l) (h':Sq jV w Any A' l') (he:l=l') (hl:l.length≤1000000):Calls prog 11 #[bW A l c,bW A' l' c'] w fun e w'=>e= .returned (.bool true)∧Below w w w':=by
 subst he;obtain⟨n,hn⟩:∃ n,n=l.length:=⟨_,rfl⟩;have HN:=aa hn;rw[← hn]at hl ⊢;have H1:=aa h;have H2:=aa h';clear h h' hn;go_enter func11,ntmps11;go_wp2;go_loopw [5] (fun v wr=>∃ k:Nat,k≤n∧v=bU (k:Int)∧Hid (Below w w wr)) (fun v _=>n - (intOf v).toNat);(case atStart=>exact⟨0,by omega,rfl,aa (aaf _ _)⟩);obtain⟨k,hk,rfl,HB⟩:=hrel;by_cases hlt:k<n
 (·(have nO:k<l.length:=by have:=HN.o;omega);obtain⟨b,o,cs,hA,_,_,hcs,cM⟩:=(H1.o.bZ HB.o).get nO;obtain⟨b',o',cs',hA',_,_,Dz,l_⟩:=(H2.o.bZ HB.o).get nO;subst hA hA';have hcs:cs=[bU ((l[k]:Nat):Int)]:=hcs;have Dz:cs'=[bU ((l[k]:Nat):Int)]:=Dz;subst hcs Dz;(have c0:b_ wr b (o+k) (bU ((l[k]:Nat):Int)):=by have:=cM 0 _ rfl;rwa [show o+k*jV.k+0=o+k by show o+k*1+0=_;omega]at this);(have c1:b_ wr b' (o'+k) (bU ((l[k]:Nat):Int)):=by have:=l_ 0 _ rfl;rwa [show o'+k*jV.k+0=o'+k by show o'+k*1+0=_;omega]at this);generalize l[k]=x at c0 c1;clear cM l_;go_wp2_with fail;go_quiet (fail);have dG:=aa (below_drewN HB.o nq);generalize wr.drewN nq=wa at dG ⊢;go_wp2;go_roundw;exact⟨k+1,by omega,rfl,dG⟩;simp[intOf];omega);(obtain rfl:k=n:=by omega);go_wp2;go_ret;exact⟨rfl,HB.o⟩
theorem ow (k:Int) (nm:ByteArray) (w:World):Calls prog 30 #[bU k,bV nm] w fun e w'=>e= .returned (.agg #[bU k,bV nm])∧w'=w.alloc (.cells #[bU k,bV nm] 51):=by
 go_enter func30,ntmps30;have hk:cN (w.alloc (.cells #[bU k,bV nm] 51)) w 51 [bU k,bV nm]:=heap_alloc_new w _;have z:=hk.cell;go_wp2_with fail;exact bodyPost_ret (by simp[results,results30,go_sem,z]) rfl ⟨rfl,rfl⟩
end
open Go Go.RowKit Bg Go.Proofs Sh Kb Ln
theorem J_ {jt:ByteArray→Bool} {par:Bool} (l:List cw) (x:cw):iz jt par (l++[x])=iz jt par l++fL jt par x:=by
 rw[uF];simp[iz]
theorem Fx {jt:ByteArray→Bool} {par:Bool} {op:Int} {nm:ByteArray}:(js jt par op nm).length≤1:=by
 unfold js;split
 (·exact aaB _);split
 (·exact aaB _);split
 (·split<;>exact aaB _);exact aaG _
theorem Fy {jt:ByteArray→Bool} {par:Bool} (N:Nat):∀ x:cw,cE x≤N→(fL jt par x).length≤cE x:=by
 induction N with
 |zero=>intro x hx;have:=dB x;omega
 |succ N ih=>
  intro x hx;cases x with
  |mk op n u nm l=>
   have h2:cE (.mk op n u nm l)=1+cT l:=aM;rw[fL,aao,h2];have h3:∀ l:List cw,cT l≤N→(iz jt par l).length≤cT l:=by
    intro l;induction l with
    |nil=>intro _;simp[iz,cT]
    |cons y l ihl=>
     intro hl;have e:cT (y :: l)=cE y+cT l:=(by rw[cT]);rw[e]at hl ⊢;rw[iz,aao];have:=ih y af;have:=ihl af;omega
   have:=h3 l af;have:=Fx (jt:=jt) (par:=par) (op:=op) (nm:=nm);omega
theorem rQ {jt:ByteArray→Bool} {par:Bool}:∀ (l:List cw),(iz jt par l).length≤cT l
 |[]=>by simp[iz]
 |y :: l=>by
  have e:cT (y :: l)=cE y+cT l:=(by rw[cT]);rw[iz,aao,e];have:=Fy (jt:=jt) (par:=par) _ y aac;have:=rQ (jt:=jt) (par:=par) l;omega
def ItP (l:List eN) (w:World) (e:Ending) (w':World):Prop:=∃ A c,e= .returned (bW A l c)∧Sq dI w' (fun b=>w.heap.size≤b) A l∧Below w w w'
theorem UG {w:World} {S S':Nat→Prop} {A:Option Addr} {xs:List eN} (h:Sq dI w S A xs):qQ dI w S' A xs:=by
 obtain⟨css,h1,h2,h3⟩:=h;exact⟨css,h1,h2.mono fun _ _ _=>trivial,fun j cs x hc hx=>h3 j cs x hc hx⟩
def rG (par:Bool) (jt:ByteArray→Bool) (mv:Value) (w:World):Prop:=par=false→∃ g L,mv= .map (some g)∧gQ w g L∧∀ nm,jt nm=L.contains nm
theorem rG.bZ {par:Bool} {jt:ByteArray→Bool} {mv:Value} {w w':World} (h:rG par jt mv w) (hb:Below w w w'):rG par jt mv w':=fun hp=>by
 obtain⟨g,L,e,hs,hq⟩:=h hp;exact⟨g,L,e,hs.bZ hb hs.lt,hq⟩
theorem DA (par:Bool) (jt:ByteArray→Bool) (mv:Value) (N:Nat) (hN:N≤1000000):∀ (x:cw),cE x≤N→lZ x→∀ (w:World) (cs:List Value),rG par jt mv w→cH w Any cs x→Calls prog 57 #[.agg cs.toArray,mv,.bool par] w (ItP (fL jt par x) w):=by
 induction N with
 |zero=>intro x hx;have:=dB x;omega
 |succ N ih=>
  intro x hx hsm w cs hC hI
  replace ih:=ih af
  obtain⟨op,n,un,nm,A2,c2,ar,e1,e2,hS⟩:=cH.parts hI
  subst e1 e2
  generalize hP:ItP (fL jt par (.mk op n un nm ar)) w=P
  have HP:=aa (show ∀ e w',ItP (js jt par op nm++iz jt par ar) w e w'→P e w' from fun e w' h=>hP▸h)
  clear hP
  have vE:cE (.mk op n un nm ar)=1+cT ar:=by unfold cE;rfl
  have hnl:=fN ar
  have har:ar.length≤1000000:=by omega
  have HNL:=aa (show cT ar≤1000000 by omega)
  have um:=aa (show ∀ y∈ar,lZ y→∀ (w:World) (cs:List Value),rG par jt mv w→cH w Any cs y→Calls prog 57 #[.agg cs.toArray,mv,.bool par] w (ItP (fL jt par y) w)from fun y hy=>ih y aZ)
  have HSn:=aa (fun l x=>J_ (jt:=jt) (par:=par) l x)
  have HNi:=aa (show iz jt par []=[] by simp[iz])
  have Dm:=aa (fun l=>rQ (jt:=jt) (par:=par) l)
  have HCb:=aa (fun w w' (h:rG par jt mv w) (k:Below w w w')=>h.bZ k)
  have HA:=aa hS
  have HC:=aa hC
  have Bh:nm.size≤maxLen:=by unfold lZ at hsm;exact hsm.2.1
  have vK:=aa (show ∀ y∈ar,lZ y from by unfold lZ at hsm;exact hsm.2.2.mem)
  have oG:=aa (show cN (w.alloc (.cells #[bU op,bU n,bV un,bV nm,bW A2 ar c2] 47)) w 47 [bU op,bU n,bV un,bV nm,bW A2 ar c2]from heap_alloc_new w _)
  have gT:=aa ((aaf w w).alloc aac (.cells #[bU op,bU n,bV un,bV nm,bW A2 ar c2] 47))
  have fh:=aa (show w.heap.size+1≤(w.alloc (.cells #[bU op,bU n,bV un,bV nm,bW A2 ar c2] 47)).heap.size by rw[aaI];exact aaB _)
  have Le:=aa (fun c W=>ow c nm W)
  clear hI hS hC ih hsm hx vE hnl
  generalize fL jt par=NE at um HSn
  generalize iz jt par=NL at HP HSn HNi Dm
  have Wi:=HC
  generalize rG par jt mv=CA at Wi um HCb
  have vL:=aa (Fx (jt:=jt) (par:=par) (op:=op) (nm:=nm))
  go_enter func57,ntmps57
  go_upto_region 2 with fail
  generalize (w.alloc (.cells #[bU op,bU n,bV un,bV nm,bW A2 ar c2] 47))=w1 at oG gT fh ⊢
  have x1:=oG.o.cell
  have uD:=aa (show dO dI 51 (w+1) w1 (fun _=>False) cD []from dO.ql)
  have six:op=2∨op=3∨(op=1∧par=false∧jt nm=true)∨(op=1∧par=false∧jt nm=false)∨(op=1∧par=true)∨(¬op=2∧¬op=3∧¬op=1):=by
   by_cases h2:op=2
   (·exact .inl h2);by_cases h3:op=3
   (·exact .inr (.inl h3));by_cases h1:op=1
   ·cases par
    ·cases h:jt nm
     (·exact .inr (.inr (.inr (.inl ⟨h1,rfl,rfl⟩))));exact .inr (.inr (.inl ⟨h1,rfl,rfl⟩))
    exact .inr (.inr (.inr (.inr (.inl ⟨h1,rfl⟩))))
   exact .inr (.inr (.inr (.inr (.inr ⟨h2,h3,h1⟩))))
  rcases six with ho|ho|⟨ho,rfl,hc⟩|⟨ho,rfl,hc⟩|⟨ho,rfl⟩|⟨h2,h3,h1⟩
  case' inl=>
   have Ej:=aa (show js jt par op nm=[((2:Int),nm)] by simp[js,ho])
   go_upto_region 10 with(first|(go_at_call 30;refine(Le.o _ _).mono ?_;rintro e w' ⟨rfl,rfl⟩)|(at_builtin;refine dz (R:=dI) (S:=fun _=>False) (xs:=[]) (ys:=[(2,nm)]) (T:=51) (t:=35) (B:=w.heap.size+1) rfl (.tmp 14) (.tmp 18) 35 rfl rfl lV dO.ql rfl _ 1 1 rfl rfl ?hN ?hl ?hB rfl (n:=1) rfl ?_))
   case hN=>exact qQ.iM (R:=dI) (cs:=[_,_]) rfl _ (by rw[aaI])
   case hl=>decide
   case hB=>simp only[aaI];have:=fh.o;omega
   intro A9 c9 w9 Ba HG
   replace uD:=aa (show dO dI 51 (w+1) w9 (fun _=>False) (bW A9 1 c9) [(2,nm)]from HG.o.own)
   replace gT:=aa (((gT.o.alloc gT.o.size (.cells #[bU 2,bV nm] 51)).alloc bA (.cells #[bU 2,bV nm] 51)).grown HG.o.turn a_ (fun k e=>by cases e))
   replace fh:=aa (show w.heap.size+1≤w9 by have:=HG.o.turn.size;simp only[aaI]at this;have:=fh.o;omega)
   replace oG:=aa (jQ HG.o.turn bL ((oG.o.alloc (.cells #[bU 2,bV nm] 51)).alloc (.cells #[bU 2,bV nm] 51)))
   clear HG x1 ho
   rw[← Ej.o]at uD
   generalize js jt par op nm=L0 at uD HP Ej vL
  case' inr.inl=>
   have Ej:=aa (show js jt par op nm=[((3:Int),nm)] by simp[js,ho])
   go_upto_region 10 with(first|(go_at_call 30;refine(Le.o _ _).mono ?_;rintro e w' ⟨rfl,rfl⟩)|(at_builtin;refine dz (R:=dI) (S:=fun _=>False) (xs:=[]) (ys:=[(3,nm)]) (T:=51) (t:=35) (B:=w.heap.size+1) rfl (.tmp 24) (.tmp 28) 35 rfl rfl lV dO.ql rfl _ 1 1 rfl rfl ?hN ?hl ?hB rfl (n:=1) rfl ?_))
   case hN=>exact qQ.iM (R:=dI) (cs:=[_,_]) rfl _ (by rw[aaI])
   case hl=>decide
   case hB=>simp only[aaI];have:=fh.o;omega
   intro A9 c9 w9 Ba HG
   replace uD:=aa (show dO dI 51 (w+1) w9 (fun _=>False) (bW A9 1 c9) [(3,nm)]from HG.o.own)
   replace gT:=aa (((gT.o.alloc gT.o.size (.cells #[bU 3,bV nm] 51)).alloc bA (.cells #[bU 3,bV nm] 51)).grown HG.o.turn a_ (fun k e=>by cases e))
   replace fh:=aa (show w.heap.size+1≤w9 by have:=HG.o.turn.size;simp only[aaI]at this;have:=fh.o;omega)
   replace oG:=aa (jQ HG.o.turn bL ((oG.o.alloc (.cells #[bU 3,bV nm] 51)).alloc (.cells #[bU 3,bV nm] 51)))
   clear HG x1 ho
   rw[← Ej.o]at uD
   generalize js jt par op nm=L0 at uD HP Ej vL
  case' inr.inr.inl=>
   obtain⟨g,L,rfl,nj,hq⟩:=HC.o rfl
   have hz:=(nj.bZ gT.o nj.lt).look nm Bh
   rw[← hq nm,hc]at hz
   clear nj hq
   have Ej:=aa (show js jt false op nm=[((4:Int),nm)] by simp[js,ho,hc])
   go_upto_region 10 with(first|(go_at_call 30;refine(Le.o _ _).mono ?_;rintro e w' ⟨rfl,rfl⟩)|(at_builtin;refine dz (R:=dI) (S:=fun _=>False) (xs:=[]) (ys:=[(4,nm)]) (T:=51) (t:=35) (B:=w.heap.size+1) rfl (.tmp 44) (.tmp 48) 35 rfl rfl lV dO.ql rfl _ 1 1 rfl rfl ?hN ?hl ?hB rfl (n:=1) rfl ?_))
   case hN=>exact qQ.iM (R:=dI) (cs:=[_,_]) rfl _ (by rw[aaI])
   case hl=>decide
   case hB=>simp only[aaI];have:=fh.o;omega
   intro A9 c9 w9 Ba HG
   replace uD:=aa (show dO dI 51 (w+1) w9 (fun _=>False) (bW A9 1 c9) [(4,nm)]from HG.o.own)
   replace gT:=aa (((gT.o.alloc gT.o.size (.cells #[bU 4,bV nm] 51)).alloc bA (.cells #[bU 4,bV nm] 51)).grown HG.o.turn a_ (fun k e=>by cases e))
   replace fh:=aa (show w.heap.size+1≤w9 by have:=HG.o.turn.size;simp only[aaI]at this;have:=fh.o;omega)
   replace oG:=aa (jQ HG.o.turn bL ((oG.o.alloc (.cells #[bU 4,bV nm] 51)).alloc (.cells #[bU 4,bV nm] 51)))
   clear HG x1 ho hc hz
   rw[← Ej.o]at uD
   generalize js jt false op nm=L0 at uD HP Ej vL
  case' inr.inr.inr.inl=>
   obtain⟨g,L,rfl,nj,hq⟩:=HC.o rfl
   have hz:=(nj.bZ gT.o nj.lt).look nm Bh
   rw[← hq nm,hc]at hz
   clear nj hq
   have Ej:=aa (show js jt false op nm=[((1:Int),nm)] by simp[js,ho,hc])
   go_upto_region 10 with(first|(go_at_call 30;refine(Le.o _ _).mono ?_;rintro e w' ⟨rfl,rfl⟩)|(at_builtin;refine dz (R:=dI) (S:=fun _=>False) (xs:=[]) (ys:=[(1,nm)]) (T:=51) (t:=35) (B:=w.heap.size+1) rfl (.tmp 58) (.tmp 62) 35 rfl rfl lV dO.ql rfl _ 1 1 rfl rfl ?hN ?hl ?hB rfl (n:=1) rfl ?_))
   case hN=>exact qQ.iM (R:=dI) (cs:=[_,_]) rfl _ (by rw[aaI])
   case hl=>decide
   case hB=>simp only[aaI];have:=fh.o;omega
   intro A9 c9 w9 Ba HG
   replace uD:=aa (show dO dI 51 (w+1) w9 (fun _=>False) (bW A9 1 c9) [(1,nm)]from HG.o.own)
   replace gT:=aa (((gT.o.alloc gT.o.size (.cells #[bU 1,bV nm] 51)).alloc bA (.cells #[bU 1,bV nm] 51)).grown HG.o.turn a_ (fun k e=>by cases e))
   replace fh:=aa (show w.heap.size+1≤w9 by have:=HG.o.turn.size;simp only[aaI]at this;have:=fh.o;omega)
   replace oG:=aa (jQ HG.o.turn bL ((oG.o.alloc (.cells #[bU 1,bV nm] 51)).alloc (.cells #[bU 1,bV nm] 51)))
   clear HG x1 ho hc hz
   rw[← Ej.o]at uD
   generalize js jt false op nm=L0 at uD HP Ej vL
  case' inr.inr.inr.inr.inl=>
   have Ej:=aa (show js jt true op nm=[] by simp[js,ho])
   go_upto_region 10 with fail
   clear x1 ho
   rw[← Ej.o]at uD
   generalize js jt true op nm=L0 at uD HP Ej vL
  case' inr.inr.inr.inr.inr=>
   have z2:(op==2)=false:=by simpa using h2
   have z3:(op==3)=false:=by simpa using h3
   have z1:(op==1)=false:=by simpa using h1
   have Ej:=aa (show js jt par op nm=[] by simp[js,h1,h2,h3])
   go_upto_region 10 with fail
   clear x1
   rw[← Ej.o]at uD
   generalize js jt par op nm=L0 at uD HP Ej vL
   clear z1 z2 z3 h1 h2 h3
  all_goals (
   have HS:=aa (show dO dI 51 (w+1) _ (fun _=>False) _ (L0++NL (ar.take 0))from by rw[List.take_zero,HNi.o,List.append_nil];exact uD.o)
   clear uD Ej Le
   have x:=oG.o.cell
   go_wp2_with fail
   go_loopw [7,67] (fun v s8 wr=>∃ k:Nat,k≤ar.length∧s8=bU (k:Int)∧Hid (dO dI 51 (w+1) wr (fun _=>False) v (L0++NL (ar.take k)))∧Hid (cN wr w 47 [bU op,bU n,bV un,bV nm,bW A2 ar c2])∧Hid (Below w w wr)∧Hid (w.heap.size+1≤wr)) (fun _ s8 _=>ar.length - (intOf s8).toNat)
   case atStart=>exact⟨0,aaG _,rfl,HS,oG,gT,fh⟩
   case round=>
    clear HS oG gT fh x;obtain⟨k,hk,rfl,HS,HK,HB,fh⟩:=hrel;by_cases hlt:k<ar.length;(case pos=>obtain⟨bl,o,cs,hA,yK,hbl,ey,cM⟩:=(HA.o.bZ HB.o).get hlt;subst hA;have hmem:=aan hlt;have OH:ar.take (k+1)=ar.take k++[ar[k]]:=aaz hlt;have j4:=aa (show NL (ar.take (k+1))=NL (ar.take k)++NE ar[k] by rw[OH,HSn.o]);have RY:=Dm.o (ar.take (k+1));have hnl1:cT (ar.take (k+1))≤cT ar:=xX ar (k+1);rw[j4.o,aao]at RY;have Yd:=aa (show(NL (ar.take k)).length+(NE ar[k]).length≤1000000 by have:=HNL.o;omega);have AH:=um.o _ hmem (vK.o _ hmem);obtain⟨eR,yn,eT,eU,A3,c3,yr,oh,hes,_⟩:=cH.parts ey;generalize ar[k]=y at ey OH AH oh j4 Yd RY;subst hes;have g0:b_ wr bl (o+k*5) (bU eR):=cM 0 _ rfl;have g1:b_ wr bl (o+k*5+1) (bU yn):=cM 1 _ rfl;have g2:b_ wr bl (o+k*5+2) (bV eT):=cM 2 _ rfl;have g3:b_ wr bl (o+k*5+3) (bV eU):=cM 3 _ rfl;have g4:b_ wr bl (o+k*5+4) (bW A3 yr c3):=cM 4 _ rfl;have HY:=aa (show cN (wr.alloc (.cells #[bU eR,bU yn,bV eT,bV eU,bW A3 yr c3] 47)) wr 47 [bU eR,bU yn,bV eT,bV eU,bW A3 yr c3]from heap_alloc_new wr _);have fO:Below wr wr (wr.alloc (.cells #[bU eR,bU yn,bV eT,bV eU,bW A3 yr c3] 47)):=cS _;have ua:=aa (AH _ _ (HCb.o _ _ (HCb.o _ _ Wi.o HB.o) fO) (di.keep ey (cB.cA fO)));have cG:=aa fO;clear cM ey oh fO AH OH hnl1 RY;go_upto_region 13 with fail;generalize (wr.alloc (.cells #[bU eR,bU yn,bV eT,bV eU,bW A3 yr c3] 47))=wd at HY ua cG ⊢;clear g0 g1 g2 g3 g4;have z1:=HY.o.cell;obtain⟨ys,hys⟩:∃ ys,ys=NE y:=⟨_,rfl⟩;rw[← hys]at ua j4 Yd;obtain⟨xs,hxs⟩:∃ xs,xs=L0++NL (ar.take k):=⟨_,rfl⟩;rw[← hxs]at HS;have HXS:=aa hxs;have HXL:=aa (show xs.length+ys.length≤2000000 by rw[hxs,aao];have:=vL.o;have:=Yd.o;omega);clear hys hxs;go_wp2_with (first|(go_at_call 57;refine ua.o.mono ?_;rintro e w5 ⟨A5,c5,rfl,rZ,ew⟩;have HSQ:=aa rZ;have dF:=aa (cG.o.trans (ew.mono cG.o.size));clear rZ ew z1)|(at_builtin;refine dz (R:=dI) (S:=fun _=>False) (xs:=xs) (ys:=ys) (T:=51) (t:=35) (B:=w.heap.size+1) rfl (.tmp 71) (.tmp 75) 35 rfl rfl lV (HS.o.bZ dF.o) rfl _ _ _ rfl rfl (UG HSQ.o) ?hl ?hB rfl (n:=xs.length+ys.length) rfl ?_));(case hl=>have:=HXL.o;omega);(case hB=>have:=fh.o;have:=dF.o.size;omega);intro A9 c9 w9 Ba HG;have MW:=aa (show dO dI 51 (w+1) w9 (fun _=>False) (bW A9 (xs.length+ys.length) c9) (L0++NL (ar.take (k+1)))from by rw[j4.o, ← List.append_assoc, ← HXS.o];exact HG.o.own);have HKw:=aa (HK.o.bZ dF.o HK.o.lt);have HK9:=aa (jQ HG.o.turn (fun e=>by have:=(HS.o.lt _ e.symm).1;omega) HKw.o);have hbX:Below w w w9:=(HB.o.trans (dF.o.mono HB.o.size)).grown HG.o.turn (aaC HB.o.size dF.o.size) (fun j e=>by have:=(HS.o.lt j e).1;omega);have je:=aa hbX;have HLe9:=aa (show w.heap.size+1≤w9 by have:=HG.o.turn.size;have:=dF.o.size;have:=fh.o;omega);clear hbX HG HS HK HB fh dF HKw HSQ ua HY cG j4;go_wp2;go_roundw;exact⟨k+1,by omega,rfl,MW,HK9,je,HLe9⟩;simp[intOf];omega);(obtain rfl:k=ar.length:=by omega);rw[List.take_length]at HS;obtain⟨A9,c9,hv,_⟩:=HS.o.slice;subst hv;go_wp2;exact HP.o (.returned (bW A9 (L0++NL ar).length c9)) _ ⟨A9,c9,rfl,(HS.o.mono (fun b _ (h:False)=>h.elim)).sq fun b _ h=>by omega,HB.o⟩)
end Go.Proofs.YtfppbjfnllhgcaaGreat
namespace Ln
open Go.Proofs.YtfppbjfnllhgcaaGreat Kb Sh
open Classical in
noncomputable def kE (s:cK) (k m:Nat) (z:eN):List eN:=
 if(∃ i,i<k∧(s.cells[i]?).map (fun c=>((4:Int),c.name))=some z)∨(∃ i,i<m∧(s.funcs[i]?).map (fun c=>((3:Int),c.name))=some z)then Eh s z else[]
theorem Na (s:cK) (z:eN):kE s 0 0 z=[]:=by
 unfold kE;rw[if_neg];rintro(⟨i,h,_⟩|⟨i,h,_⟩)<;>omega
theorem Nb (s:cK) (z:eN):kE s s.cells.length s.funcs.length z=Eh s z:=by
 unfold kE;split
 (·rfl);next h=>
 obtain⟨z1,z2⟩:=z;symm;unfold Eh;by_cases h4:z1=4
 ·subst h4;rw[if_pos rfl];cases hf:s.cells.find? fun c=>c.name==z2 with
  |none=>rfl
  |some c=>
   obtain⟨i,hi,e⟩:=List.getElem_of_mem (List.mem_of_find?_eq_some hf);have hn:c.name=z2:=(by simpa using List.find?_some hf);exact absurd (Or.inl ⟨i,hi,by rw[List.getElem?_eq_getElem hi,e,Option.map_some,hn]⟩) h
 rw[if_neg (show ¬(z1,z2).1=4 from h4)];by_cases h3:z1=3
 ·subst h3;rw[if_pos rfl];cases hf:s.funcs.find? fun c=>c.name==z2 with
  |none=>rfl
  |some c=>
   obtain⟨i,hi,e⟩:=List.getElem_of_mem (List.mem_of_find?_eq_some hf);have hn:c.name=z2:=(by simpa using List.find?_some hf);exact absurd (Or.inr ⟨i,hi,by rw[List.getElem?_eq_getElem hi,e,Option.map_some,hn]⟩) h
 rw[if_neg (show ¬(z1,z2).1=3 from h3)]
theorem Nc {s:cK} {k m:Nat} (hk:k<s.cells.length) (z:eN):kE s (k+1) m z=if z=(4,s.cells[k].name)then Eh s (4,s.cells[k].name)else kE s k m z:=by
 by_cases h:z=(4,s.cells[k].name)
 (·subst h;rw[if_pos rfl];unfold kE;rw[if_pos (Or.inl ⟨k,by omega,by rw[List.getElem?_eq_getElem hk];rfl⟩)]);rw[if_neg h];unfold kE;congr 1;apply propext;constructor
 ·rintro(⟨i,h1,h2⟩|h1)
  ·by_cases e:i=k
   (·subst e;rw[List.getElem?_eq_getElem hk,Option.map_some]at h2;exact absurd (Option.some.inj h2).symm h);exact .inl ⟨i,by omega,h2⟩
  exact .inr h1
 rintro(⟨i,h1,h2⟩|h1)
 (·exact .inl ⟨i,by omega,h2⟩);exact .inr h1
theorem Nd {s:cK} {k m:Nat} (hk:m<s.funcs.length) (z:eN):kE s k (m+1) z=if z=(3,s.funcs[m].name)then Eh s (3,s.funcs[m].name)else kE s k m z:=by
 by_cases h:z=(3,s.funcs[m].name)
 (·subst h;rw[if_pos rfl];unfold kE;rw[if_pos (Or.inr ⟨m,by omega,by rw[List.getElem?_eq_getElem hk];rfl⟩)]);rw[if_neg h];unfold kE;congr 1;apply propext;constructor
 ·rintro(h1|⟨i,h1,h2⟩)
  (·exact .inl h1);by_cases e:i=m
  (·subst e;rw[List.getElem?_eq_getElem hk,Option.map_some]at h2;exact absurd (Option.some.inj h2).symm h);exact .inr ⟨i,by omega,h2⟩
 rintro(h1|⟨i,h1,h2⟩)
 (·exact .inl h1);exact .inr ⟨i,by omega,h2⟩
end Ln
namespace Go.Proofs.YtfppbjfnllhgcaaGreat
section
open Go Go.RowKit Go.Maps Go.WideMaps Bg Go.Proofs Sh Kb Ln
section
variable {ops:Array Oper} {o:Oper} {a:Act} {w:World} {K:Act→World→Prop} {Q:Exit→Act→World→Prop} {E:Prop}
theorem Fz (hg:o.guard=none) (m x v:Operand) (t:TypeId) (hop:o.op=Op.mapUpdate t m x v) (e:TypeId) (ht:Tryz.prog.underlying t=some (.map 51 e)) (b n:Nat) (f:gZ→Option Value) (hm:a.eval m= .map (some b)) (hown:ij w b n f) (hn:n<maxLen) (k:gZ) (u:Value) (hx:a.eval x= .agg #[bU k.1,bV k.2]) (hv:a.eval v=u) (hk:gX k) (hK:∀ w',ij w' b (n+1) (fun k'=>if k'=k then some u else f k')→w.grownBy w' (some b)→K (a.put o.dst undef) w'):if Region.wanted o (yielded ops a.tmps)=true then Oper.wp prog o a w K Q else E:=by
 have hw:Region.wanted o (yielded ops a.tmps)=true:=(by simp[Region.wanted,hg]);rw[if_pos hw];obtain⟨D,h1,h2,h3⟩:=hown;obtain⟨w',hrun,r1,r2⟩:=h1.update ou ht hn (nB hk) (d:= .held u) (ps:=[]) (R:=kX) rfl;unfold Oper.wp;simp[execOp,hop,hm,hx,hv,hrun,Result.andThen];refine hK w' ⟨_,r1,?_,fun k' hk'=>?_⟩ r2
 (·obtain⟨es,rfl⟩:=h2;exact⟨_,rfl⟩);by_cases hkk:k'=k
 ·subst hkk;simp only[if_true];refine⟨has_put_same h2 (G8 k') _,fun v z h=>?_,fun z h=>?_⟩
  (·have hv:u=v:=Option.some.inj h;rw[← hv];exact atKey_put_same h2 (G8 k') _ _);exact absurd h ai
 simp only[if_neg hkk];have hne:mN k'≠mN k:=fun e=>hkk (Dt hk' hk e);obtain⟨p1,p2,p3⟩:=h3 k' hk';exact⟨(has_put_other hne _).trans p1,fun v z h=>(atKey_put_other hne _ _).trans (p2 v z h),fun z h=>(atKey_put_other hne _ _).trans (p3 z h)⟩
end
def Hg (w:World) (gm n:Nat) (gg:eN→List eN):Prop:=∃ G,ij w gm n G∧∀ z,gX z→∃ A c,(G z).getD cD=bW A (gg z).length c∧Sq dI w (fun b=>gm<b) A (gg z)
theorem Hg.made (w:World) {gg:eN→List eN} (h:∀ z,gg z=[]):Hg (w.alloc (.map #[] 0)) w 0 gg:=
 ⟨_,ij.made w,fun z _=>⟨none,0,by rw[h z];rfl,by rw[h z];exact Sq.nil⟩⟩
theorem Hg.bZ {w w':World} {gm n:Nat} {gg:eN→List eN} (h:Hg w gm n gg) (hb:Below w w w'):Hg w' gm n gg:=by
 obtain⟨G,h1,h2⟩:=h;refine⟨G,h1.bZ hb h1.lt,fun z hz=>?_⟩;obtain⟨A,c,e,hs⟩:=h2 z hz;exact⟨A,c,e,hs.bZ hb⟩
theorem Hg.at_ {w:World} {gm n:Nat} {gg:eN→List eN} (h:Hg w gm n gg):Dw w gm gg:=by
 obtain⟨G,h1,h2⟩:=h;refine⟨n,G,h1,fun z hz=>?_⟩;obtain⟨A,c,e,hs⟩:=h2 z hz;exact⟨A,c,e,hs.all⟩
theorem Hg.lt {w:World} {gm n:Nat} {gg:eN→List eN} (h:Hg w gm n gg):gm<w.heap.size:=h.elim fun _ h=>h.1.lt
theorem Hg.put {w w':World} {gm n:Nat} {gg gg':eN→List eN} {G:eN→Option Value} {x:eN} {A:Option Addr} {c:Nat} {l:List eN} (h:∀ z,gX z→∃ A c,(G z).getD cD=bW A (gg z).length c∧Sq dI w (fun b=>gm<b) A (gg z)) (hM:ij w' gm (n+1) (fun k'=>if k'=x then some (bW A l c)else G k')) (hg:w.grownBy w' (some gm)) (hs:Sq dI w (fun b=>gm<b) A l) (he:∀ z,gg' z=if z=x then l else gg z):Hg w' gm (n+1) gg':=by
 refine⟨_,hM,fun z hz=>?_⟩;(have hk:cB (fun b=>gm<b) w w':=cB.fE hg fun b hb e=>by injection e with e;omega);by_cases hx:z=x
 (·have e1:gg' z=l:=(by rw[he z,if_pos hx]);rw[e1];exact⟨A,c,by simp only[if_pos hx];rfl,hs.keep hk⟩);have e1:gg' z=gg z:=(by rw[he z,if_neg hx]);rw[e1];obtain⟨A',c',e,hs'⟩:=h z hz;exact⟨A',c',by simp only[if_neg hx];exact e,hs'.keep hk⟩
theorem Ka {jt:ByteArray→Bool} {par:Bool} (N:Nat):∀ x:cw,cE x≤N→lZ x→∀ z∈fL jt par x,gX z:=by
 induction N with
 |zero=>intro x hx;have:=dB x;omega
 |succ N ih=>
  intro x hx hsm z hz;obtain⟨op,n,u,nm,l⟩:=x;have hn:cE (.mk op n u nm l)=1+cT l:=aM;have hnm:nm.size≤maxLen:=(by unfold lZ at hsm;exact hsm.2.1);have hS:∀ y∈l,lZ y:=(by unfold lZ at hsm;exact hsm.2.2.mem);rw[fL,List.mem_append]at hz;rcases hz with hz|hz
  ·unfold js at hz;split at hz
   (·rw[aau.1 hz];exact⟨(by decide:(Lit.int .i64 2).wf=true),hnm⟩);split at hz
   (·rw[aau.1 hz];exact⟨(by decide:(Lit.int .i64 3).wf=true),hnm⟩);split at hz
   ·split at hz
    (·rw[aau.1 hz];exact⟨(by decide:(Lit.int .i64 4).wf=true),hnm⟩);rw[aau.1 hz];exact⟨(by decide:(Lit.int .i64 1).wf=true),hnm⟩
   simp at hz
  obtain⟨y,hy,hz⟩:=(u_ l).1 hz;exact ih y aQ (hS y hy) z hz
theorem yY {α β:Type} {f:α→List β} {n:Nat}:∀ {l:List α},(∀ x∈l,(f x).length≤n)→(l.flatMap f).length≤l.length*n
 |[],_=>by simp
 |a :: l,h=>by
  rw[List.flatMap_cons,aao,List.length_cons,Nat.add_mul,Nat.one_mul];have:=h a ai;have:=yY (l:=l) fun x hx=>h x (by simp[hx]);omega
end
section
open Go Go.RowKit Bg Go.Proofs Sh Kb
def tyL (t:Bool) (d0 d1 d2 d3 d4 d5:Int):List Value:=[.bool t,bU d0,bU d1,bU d2,bU d3,bU d4,bU d5]
theorem Nf (d0 d1 d2 d3 d4 d5:Int) (w:World):Calls prog 275 #[.agg #[bU d0,bU d1,bU d2,bU d3,bU d4,bU d5]] w fun e w'=>e= .returned (.agg (tyL false d0 d1 d2 d3 d4 d5).toArray)∧Below w w w':=by
 unfold tyL;go_enter func275,ntmps275;have hk:cN ((w.alloc (.cells #[bU d0,bU d1,bU d2,bU d3,bU d4,bU d5] 91)).alloc (.cells #[.bool false,bU d0,bU d1,bU d2,bU d3,bU d4,bU d5] 137)) (w+1) 137 [.bool false,bU d0,bU d1,bU d2,bU d3,bU d4,bU d5]:=by
  have:=heap_alloc_new (w.alloc (.cells #[bU d0,bU d1,bU d2,bU d3,bU d4,bU d5] 91)) (.cells #[.bool false,bU d0,bU d1,bU d2,bU d3,bU d4,bU d5] 137)
  rwa [aaI]at this
 have z:=hk.cell;have hb:Below w w ((w.alloc (.cells #[bU d0,bU d1,bU d2,bU d3,bU d4,bU d5] 91)).alloc (.cells #[.bool false,bU d0,bU d1,bU d2,bU d3,bU d4,bU d5] 137)):=(cS _).alloc aJ _;go_wp2_with fail;exact bodyPost_ret (by simp[results,results275,go_sem,z]) rfl ⟨rfl,hb⟩
theorem Qt (w:World):Calls prog 278 #[] w fun e w'=>e= .returned (.agg (tyL true 0 0 0 0 0 0).toArray)∧Below w w w':=by
 unfold tyL;go_enter func278,ntmps278;have hk:cN (w.alloc (.cells #[.bool true,bU 0,bU 0,bU 0,bU 0,bU 0,bU 0] 137)) w 137 [.bool true,bU 0,bU 0,bU 0,bU 0,bU 0,bU 0]:=heap_alloc_new w _;have z:=hk.cell;have hb:Below w w (w.alloc (.cells #[.bool true,bU 0,bU 0,bU 0,bU 0,bU 0,bU 0] 137)):=cS _;go_wp2_with fail;exact bodyPost_ret (by simp[results,results278,go_sem,z]) rfl ⟨rfl,hb⟩
end
section
open Go Go.RowKit Go.Proofs
theorem UH (d:Nat) (a0 a1 a2 a3 a4 a5 b0 b1 b2 b3 b4 b5:Int) (W:World):(Op.equalIn (d+2) 91 (.agg #[bU a0,bU a1,bU a2,bU a3,bU a4,bU a5]) (.agg #[bU b0,bU b1,bU b2,bU b3,bU b4,bU b5])).run prog W= .ok (decide ([a0,a1,a2,a3,a4,a5]=[b0,b1,b2,b3,b4,b5])) W:=by
 have hI:∀ (a b:Int) (w:World),(Op.equalIn (d+1) 3 (bU a) (bU b)).run prog w= .ok (a==b) w:=fun a b w=>run_equalIn_int w d 3 .i64 .i64 a b underlying3;(have pa0:∀ w,(part 3 #[bU a0,bU a1,bU a2,bU a3,bU a4,bU a5] 0).run prog w= .ok (bU a0) w:=fun w=>by kernel_rfl);(have pa1:∀ w,(part 3 #[bU a0,bU a1,bU a2,bU a3,bU a4,bU a5] 1).run prog w= .ok (bU a1) w:=fun w=>by kernel_rfl);(have pa2:∀ w,(part 3 #[bU a0,bU a1,bU a2,bU a3,bU a4,bU a5] 2).run prog w= .ok (bU a2) w:=fun w=>by kernel_rfl);(have pa3:∀ w,(part 3 #[bU a0,bU a1,bU a2,bU a3,bU a4,bU a5] 3).run prog w= .ok (bU a3) w:=fun w=>by kernel_rfl);(have pa4:∀ w,(part 3 #[bU a0,bU a1,bU a2,bU a3,bU a4,bU a5] 4).run prog w= .ok (bU a4) w:=fun w=>by kernel_rfl);(have pa5:∀ w,(part 3 #[bU a0,bU a1,bU a2,bU a3,bU a4,bU a5] 5).run prog w= .ok (bU a5) w:=fun w=>by kernel_rfl);(have pb0:∀ w,(part 3 #[bU b0,bU b1,bU b2,bU b3,bU b4,bU b5] 0).run prog w= .ok (bU b0) w:=fun w=>by kernel_rfl);(have pb1:∀ w,(part 3 #[bU b0,bU b1,bU b2,bU b3,bU b4,bU b5] 1).run prog w= .ok (bU b1) w:=fun w=>by kernel_rfl);(have pb2:∀ w,(part 3 #[bU b0,bU b1,bU b2,bU b3,bU b4,bU b5] 2).run prog w= .ok (bU b2) w:=fun w=>by kernel_rfl);(have pb3:∀ w,(part 3 #[bU b0,bU b1,bU b2,bU b3,bU b4,bU b5] 3).run prog w= .ok (bU b3) w:=fun w=>by kernel_rfl);(have pb4:∀ w,(part 3 #[bU b0,bU b1,bU b2,bU b3,bU b4,bU b5] 4).run prog w= .ok (bU b4) w:=fun w=>by kernel_rfl);(have pb5:∀ w,(part 3 #[bU b0,bU b1,bU b2,bU b3,bU b4,bU b5] 5).run prog w= .ok (bU b5) w:=fun w=>by kernel_rfl);(have hsz:∀ w,(sizeOf 3).run prog w= .ok 1 w:=fun w=>by kernel_rfl);unfold Op.equalIn;simp only[Sem.run_bind,run_underlying underlying91,Result.andThen_ok,hsz,Std.Legacy.Range.forIn_eq_forIn_range',Std.Legacy.Range.size];simp only[show(6 - 0+1 - 1) / 1=6 from rfl,List.range',List.forIn_cons,List.forIn_nil,Sem.run_bind,Nat.mul_one,Nat.zero_add,Nat.reduceAdd,Nat.reduceMul,pa0,pa1,pa2,pa3,pa4,pa5,pb0,pb1,pb2,pb3,pb4,pb5,Result.andThen_ok,hI];simp[Sem.run_bind,pa0,pa1,pa2,pa3,pa4,pa5,pb0,pb1,pb2,pb3,pb4,pb5,hI,Result.andThen_ok];clear pa0 pa1 pa2 pa3 pa4 pa5 pb0 pb1 pb2 pb3 pb4 pb5 hI hsz;by_cases h0:a0=b0<;>by_cases h1:a1=b1<;>by_cases h2:a2=b2<;>by_cases h3:a3=b3<;>by_cases h4:a4=b4<;>by_cases h5:a5=b5<;>simp[h0,h1,h2,h3,h4,h5,Result.andThen_ok]
theorem BD (a0 a1 a2 a3 a4 a5 b0 b1 b2 b3 b4 b5:Int) (W:World):(binOp .neq 91 (.agg #[bU a0,bU a1,bU a2,bU a3,bU a4,bU a5]) (.agg #[bU b0,bU b1,bU b2,bU b3,bU b4,bU b5])).run prog W= .ok (.bool (!decide ([a0,a1,a2,a3,a4,a5]=[b0,b1,b2,b3,b4,b5]))) W:=by
 rw[run_neq_struct,show(10000:Nat)=9998+2 from rfl,UH];rfl
end
open Go Go.RowKit Bg Go.Proofs Sh Kb Ck
def qd (t:nS):List Value:= .bool t.truth :: ic t.jP
def AL (r:Int×nS) (w:World) (e:Ending) (w':World):Prop:=e= .returned (.tuple #[.agg (qd r.2).toArray,bU r.1])∧Below w w w'
theorem dS:(Tryz.prog.info? 137).map (·.size)=some 7:=by kernel_rfl
theorem yZ (a b r:nS) (w:World) (ha:a.jP.length=6) (hb:b.jP.length=6):Calls prog 277 #[.agg (qd a).toArray,.agg (qd b).toArray,.agg (qd r).toArray] w (AL (jW a b r) w):=by
 obtain⟨ta,da⟩:=a;obtain⟨tb,db⟩:=b;obtain⟨tr,dr⟩:=r;obtain⟨a0,a1,a2,a3,a4,a5,rfl⟩:=six ha;obtain⟨b0,b1,b2,b3,b4,b5,rfl⟩:=six hb;generalize hP:AL (jW ⟨ta,[a0,a1,a2,a3,a4,a5]⟩ ⟨tb,[b0,b1,b2,b3,b4,b5]⟩ ⟨tr,dr⟩) w=P;have HP:=aa (show ∀ e w',AL (jW ⟨ta,[a0,a1,a2,a3,a4,a5]⟩ ⟨tb,[b0,b1,b2,b3,b4,b5]⟩ ⟨tr,dr⟩) w e w'→P e w' from fun e w' h=>hP▸h);have HR:=aa (show qd ⟨tr,dr⟩=[.bool tr,.int .i64 (dr.getD 0 0),.int .i64 (dr.getD 1 0),.int .i64 (dr.getD 2 0),.int .i64 (dr.getD 3 0),.int .i64 (dr.getD 4 0),.int .i64 (dr.getD 5 0)]from rfl);clear hP ha hb;simp only[qd,ic,aal,aak];generalize dr.getD 0 0=r0 at HR ⊢;generalize dr.getD 1 0=r1 at HR ⊢;generalize dr.getD 2 0=r2 at HR ⊢;generalize dr.getD 3 0=r3 at HR ⊢;generalize dr.getD 4 0=r4 at HR ⊢;generalize dr.getD 5 0=r5 at HR ⊢;go_enter func277,ntmps277;go_upto_region 1 with fail;obtain⟨w4,hw4,K0,K1,K2,K3,HB⟩:=Um w [.bool ta,.int .i64 a0,.int .i64 a1,.int .i64 a2,.int .i64 a3,.int .i64 a4,.int .i64 a5] [.bool tb,.int .i64 b0,.int .i64 b1,.int .i64 b2,.int .i64 b3,.int .i64 b4,.int .i64 b5] [.bool tr,.int .i64 r0,.int .i64 r1,.int .i64 r2,.int .i64 r3,.int .i64 r4,.int .i64 r5] [.bool false,.int .i64 0,.int .i64 0,.int .i64 0,.int .i64 0,.int .i64 0,.int .i64 0] 137 137 137 137;rw[hw4];clear hw4;have z0:=K0.o.cell;have z1:=K1.o.cell;have z2:=K2.o.cell;have rX:=BD a0 a1 a2 a3 a4 a5 b0 b1 b2 b3 b4 b5;by_cases ht:ta=true∨tb=true;case pos=>
  have HE:=aa (show jW ⟨ta,[a0,a1,a2,a3,a4,a5]⟩ ⟨tb,[b0,b1,b2,b3,b4,b5]⟩ ⟨tr,dr⟩=(13,zT) by unfold jW;rw[if_pos (by simpa using ht)]);rcases ht with rfl|rfl
  (·go_wp2_with (refine cQ rfl _ _ _ rfl _ _ rfl rfl _ K3.o dS rfl rfl ?_;intro w5 K5 gp);have dF:=aa (cC HB.o gp aac af);exact bodyPost_ret (cO rfl _ _ _ 137 _ _ _ rfl rfl K5.o underlying137 rfl dS) rfl (HP.o _ _ ⟨by rw[HE.o];rfl,dF.o⟩));cases ta;all_goals
   go_wp2_with (refine cQ rfl _ _ _ rfl _ _ rfl rfl _ K3.o dS rfl rfl ?_;intro w5 K5 gp);have dF:=aa (cC HB.o gp aac af);exact bodyPost_ret (cO rfl _ _ _ 137 _ _ _ rfl rfl K5.o underlying137 rfl dS) rfl (HP.o _ _ ⟨by rw[HE.o];rfl,dF.o⟩)
 (obtain⟨rfl,rfl⟩:ta=false∧tb=false:=by simpa using ht);by_cases hd:[a0,a1,a2,a3,a4,a5]=[b0,b1,b2,b3,b4,b5];(case pos=>have HE:=aa (show jW ⟨false,[a0,a1,a2,a3,a4,a5]⟩ ⟨false,[b0,b1,b2,b3,b4,b5]⟩ ⟨tr,dr⟩=(0,⟨tr,dr⟩) by unfold jW;rw[if_neg ai,if_pos hd]);(have hq:∀ W,(binOp .neq 91 (.agg #[bU a0,bU a1,bU a2,bU a3,bU a4,bU a5]) (.agg #[bU b0,bU b1,bU b2,bU b3,bU b4,bU b5])).run prog W= .ok (.bool false) W:=fun W=>by rw[rX,decide_eq_true hd];rfl);clear rX hd ht;go_wp2_with (refine cQ rfl _ _ _ rfl _ _ rfl rfl _ K3.o dS rfl rfl ?_;intro w5 K5 gp);have dF:=aa (cC HB.o gp aac af);exact bodyPost_ret (cO rfl _ _ _ 137 _ _ _ rfl rfl K5.o underlying137 rfl dS) rfl (HP.o _ _ ⟨by rw[HE.o,HR.o];rfl,dF.o⟩));have HE:=aa (show jW ⟨false,[a0,a1,a2,a3,a4,a5]⟩ ⟨false,[b0,b1,b2,b3,b4,b5]⟩ ⟨tr,dr⟩=(14,zT) by unfold jW;rw[if_neg ai,if_neg hd]);(have hq:∀ W,(binOp .neq 91 (.agg #[bU a0,bU a1,bU a2,bU a3,bU a4,bU a5]) (.agg #[bU b0,bU b1,bU b2,bU b3,bU b4,bU b5])).run prog W= .ok (.bool true) W:=fun W=>by rw[rX,decide_eq_false hd];rfl);clear rX hd ht;go_wp2_with (refine cQ rfl _ _ _ rfl _ _ rfl rfl _ K3.o dS rfl rfl ?_;intro w5 K5 gp);have dF:=aa (cC HB.o gp aac af);exact bodyPost_ret (cO rfl _ _ _ 137 _ _ _ rfl rfl K5.o underlying137 rfl dS) rfl (HP.o _ _ ⟨by rw[HE.o];rfl,dF.o⟩)
theorem xG (d:List Int) (w:World):Calls prog 275 #[.agg (ic d).toArray] w fun e w'=>e= .returned (.agg (qd (Ck.oA d)).toArray)∧Below w w w':=Nf _ _ _ _ _ _ w
theorem DB (w:World):Calls prog 278 #[] w fun e w'=>e= .returned (.agg (qd MX).toArray)∧Below w w w':=Qt w
theorem Qu (div:Bool) (a b:List Int) (W:World) (ha:a.length=6) (hb:b.length=6):Calls prog (if div then 303 else 302) #[.agg (ic a).toArray,.agg (ic b).toArray] W (tA (mo div a b) W):=by
 cases div
 (·exact XB a b W ha hb);exact XD a b W ha hb
theorem Qv {div:Bool} {a b:List Int}:(mo div a b).2.length=6:=by
 unfold mo;by_cases h:(dN a&&dN b)=true
 ·rw[if_pos h];cases div
  ·by_cases h2:dN (addD a b)=true
   (·simp only[Bool.false_eq_true,if_false,if_pos h2];rfl);simp only[Bool.false_eq_true,if_false,if_neg h2];rfl
  by_cases h2:dN (subD a b)=true
  (·simp only[if_true,if_pos h2];rfl);simp only[if_true,if_neg h2];rfl
 rw[if_neg h];rfl
theorem Kc (op:Int) (a b:nS) (w:World) (ha:a.jP.length=6) (hb:b.jP.length=6):Calls prog 279 #[bU op,.agg (qd a).toArray,.agg (qd b).toArray] w (AL (xq op a b) w):=by
 obtain⟨ta,da⟩:=a
 obtain⟨tb,db⟩:=b
 generalize hP:AL (xq op ⟨ta,da⟩ ⟨tb,db⟩) w=P
 have HP:=aa (show ∀ e w',AL (xq op ⟨ta,da⟩ ⟨tb,db⟩) w e w'→P e w' from fun e w' h=>hP▸h)
 have HR:Hid (xq op ⟨ta,da⟩ ⟨tb,db⟩=if ta||tb then(13,zT)else if(mo (op==9) da db).1=0 then(0,Ck.oA (mo (op==9) da db).2)else(14,zT)):=aa rfl
 clear hP
 have HJ:=aa (fun W=>Qu (op==9) da db W ha hb)
 generalize mo (op==9) da db=r at HJ HR
 generalize xq op ⟨ta,da⟩ ⟨tb,db⟩=q at HP HR
 obtain⟨re,rd⟩:=r
 have HN:=aa (fun W=>xG rd W)
 replace HR:Hid (q=if ta||tb then(13,zT)else if re=0 then(0,Ck.oA rd)else(14,zT)):=HR
 have HT:Hid (qd (Ck.oA rd)=[.bool false,bU (rd.getD 0 0),bU (rd.getD 1 0),bU (rd.getD 2 0),bU (rd.getD 3 0),bU (rd.getD 4 0),bU (rd.getD 5 0)]):=aa rfl
 rw[HT.o]at HN
 replace HJ:Hid (∀ W,Calls prog (if(op==9)=true then 303 else 302) #[.agg (ic da).toArray,.agg (ic db).toArray] W fun e w'=>e= .returned (.tuple #[.agg #[bU (rd.getD 0 0),bU (rd.getD 1 0),bU (rd.getD 2 0),bU (rd.getD 3 0),bU (rd.getD 4 0),bU (rd.getD 5 0)],bU re])∧Below W W w'):=HJ
 simp only[qd,ic]at HJ HN ⊢
 clear ha hb
 generalize rd.getD 0 0=c0 at HJ HN HT
 generalize rd.getD 1 0=c1 at HJ HN HT
 generalize rd.getD 2 0=c2 at HJ HN HT
 generalize rd.getD 3 0=c3 at HJ HN HT
 generalize rd.getD 4 0=c4 at HJ HN HT
 generalize rd.getD 5 0=c5 at HJ HN HT
 generalize da.getD 0 0=a0 at HJ ⊢
 generalize da.getD 1 0=a1 at HJ ⊢
 generalize da.getD 2 0=a2 at HJ ⊢
 generalize da.getD 3 0=a3 at HJ ⊢
 generalize da.getD 4 0=a4 at HJ ⊢
 generalize da.getD 5 0=a5 at HJ ⊢
 generalize db.getD 0 0=b0 at HJ ⊢
 generalize db.getD 1 0=b1 at HJ ⊢
 generalize db.getD 2 0=b2 at HJ ⊢
 generalize db.getD 3 0=b3 at HJ ⊢
 generalize db.getD 4 0=b4 at HJ ⊢
 generalize db.getD 5 0=b5 at HJ ⊢
 go_enter func279,ntmps279
 go_upto_region 1 with fail
 obtain⟨w1,hw1,K0,K1,K2,HB⟩:=nP w [.bool ta,.int .i64 a0,.int .i64 a1,.int .i64 a2,.int .i64 a3,.int .i64 a4,.int .i64 a5] [.bool tb,.int .i64 b0,.int .i64 b1,.int .i64 b2,.int .i64 b3,.int .i64 b4,.int .i64 b5] [.bool false,.int .i64 0,.int .i64 0,.int .i64 0,.int .i64 0,.int .i64 0,.int .i64 0] 137 137 137
 rw[hw1]
 clear hw1
 have x0:=K0.o.cell
 have x1:=K1.o.cell
 by_cases ht:ta=true∨tb=true
 case pos=>
  have HE:=aa (show q=(13,zT) by rw[HR.o,if_pos (by simpa using ht)]);clear HJ HN;rcases ht with rfl|rfl
  (·go_wp2_with (refine cQ rfl _ _ _ rfl _ _ rfl rfl _ K2.o dS rfl rfl ?_;intro w5 K5 gp);exact bodyPost_ret (cO rfl _ _ _ 137 _ _ _ rfl rfl K5.o underlying137 rfl dS) rfl (HP.o _ _ ⟨by rw[HE.o];rfl,cC HB.o gp aac af⟩));cases ta;all_goals
   go_wp2_with (refine cQ rfl _ _ _ rfl _ _ rfl rfl _ K2.o dS rfl rfl ?_;intro w5 K5 gp);exact bodyPost_ret (cO rfl _ _ _ 137 _ _ _ rfl rfl K5.o underlying137 rfl dS) rfl (HP.o _ _ ⟨by rw[HE.o];rfl,cC HB.o gp aac af⟩)
 case neg=>
  obtain⟨rfl,rfl⟩:ta=false∧tb=false:=by simpa using ht
  clear ht
  by_cases h9:op=9
  case' pos=>
   subst h9
   replace HJ:Hid (∀ (W:World),Calls prog 303 #[.agg #[bU a0,bU a1,bU a2,bU a3,bU a4,bU a5],.agg #[bU b0,bU b1,bU b2,bU b3,bU b4,bU b5]] W fun e w'=>e= .returned (.tuple #[.agg #[bU c0,bU c1,bU c2,bU c3,bU c4,bU c5],bU re])∧Below W W w'):=HJ
   go_upto_region 6 with fail
  case' neg=>
   have z9:(op==9)=false:=by simpa using h9
   rw[z9]at HJ
   replace HJ:Hid (∀ (W:World),Calls prog 302 #[.agg #[bU a0,bU a1,bU a2,bU a3,bU a4,bU a5],.agg #[bU b0,bU b1,bU b2,bU b3,bU b4,bU b5]] W fun e w'=>e= .returned (.tuple #[.agg #[bU c0,bU c1,bU c2,bU c3,bU c4,bU c5],bU re])∧Below W W w'):=HJ
   clear h9
   go_upto_region 6 with fail
  all_goals (
   by_cases wW:re=0
   case pos=>
    have HE:=aa (show q=(0,Ck.oA rd) by rw[HR.o,if_neg ai,if_pos wW]);subst wW;go_wp2_with (first|(go_at_call 275;refine(HN.o _).mono ?_;rintro e w6 ⟨rfl,eO⟩;have K6:=aa (K3.o.bZ eO K3.o.lt);have eA:=aa (eF.o.trans (eO.mono eF.o.size));clear eO)|(refine(HJ.o _).mono ?_;rintro e w2 ⟨rfl,hb2⟩;have K3:=aa ((K2.o.bZ hb2 K2.o.lt).alloc (.cells #[bU c0,bU c1,bU c2,bU c3,bU c4,bU c5] 91));have eF:=aa ((HB.o.trans (hb2.mono HB.o.size)).alloc (HB.o.trans (hb2.mono HB.o.size)).size (.cells #[bU c0,bU c1,bU c2,bU c3,bU c4,bU c5] 91));clear hb2 x0 x1)|(refine cQ rfl _ _ _ rfl _ _ rfl rfl _ K6.o dS rfl rfl ?_;intro w5 K5 gp));exact bodyPost_ret (cO rfl _ _ _ 137 _ _ _ rfl rfl K5.o underlying137 rfl dS) rfl (HP.o _ _ ⟨by rw[HE.o,HT.o];rfl,cC eA.o gp aac af⟩)
   case neg=>
    have HE:=aa (show q=(14,zT) by rw[HR.o,if_neg ai,if_neg wW]);have zr:(re != 0)=true:=(by simpa using wW);clear wW HN;go_wp2_with (first|(refine(HJ.o _).mono ?_;rintro e w2 ⟨rfl,hb2⟩;have K3:=aa ((K2.o.bZ hb2 K2.o.lt).alloc (.cells #[bU c0,bU c1,bU c2,bU c3,bU c4,bU c5] 91));have eF:=aa ((HB.o.trans (hb2.mono HB.o.size)).alloc (HB.o.trans (hb2.mono HB.o.size)).size (.cells #[bU c0,bU c1,bU c2,bU c3,bU c4,bU c5] 91));clear hb2 x0 x1)|(refine cQ rfl _ _ _ rfl _ _ rfl rfl _ K3.o dS rfl rfl ?_;intro w5 K5 gp));exact bodyPost_ret (cO rfl _ _ _ 137 _ _ _ rfl rfl K5.o underlying137 rfl dS) rfl (HP.o _ _ ⟨by rw[HE.o];rfl,cC eF.o gp aac af⟩))
def Hh (d:List Int):Value:= .agg (ic d).toArray
def mO (w:World) (g:Nat) (l:List fF):Prop:=∃ n,fP w g n fun nm=>(iR l nm).map Hh
def OT (l:List fF):Prop:=∀ nm d,iR l nm=some d→d.length=6
theorem mO.bZ {w w':World} {g:Nat} {l:List fF} (h:mO w g l) (hb:Below w w w'):mO w' g l:=by
 obtain⟨n,h⟩:=h;exact⟨n,h.bZ hb h.lt⟩
theorem qM (w:World):(zeroValue 91).run prog w= .ok (.agg #[bU 0,bU 0,bU 0,bU 0,bU 0,bU 0]) w:=by kernel_rfl
theorem UI (m1:Value) (g2:Nat) (ts:List fF) (nm:ByteArray) (key:nS) (w:World) (hm:mO w g2 ts) (h6:OT ts) (hk:key.jP.length=6) (hn:nm.size≤maxLen):Calls prog 276 #[.agg #[m1,.map (some g2)],bV nm,.agg (qd key).toArray] w (AL (xh ts nm key) w):=by
 obtain⟨tk,dk⟩:=key;obtain⟨k0,k1,k2,k3,k4,k5,rfl⟩:=six hk;generalize hP:AL (xh ts nm ⟨tk,[k0,k1,k2,k3,k4,k5]⟩) w=P;have HP:=aa (show ∀ e w',AL (xh ts nm ⟨tk,[k0,k1,k2,k3,k4,k5]⟩) w e w'→P e w' from fun e w' h=>hP▸h);have HR:Hid (xh ts nm ⟨tk,[k0,k1,k2,k3,k4,k5]⟩=match iR ts nm with|none=>(11,zT)|some d=>if tk then(13,zT)else if[k0,k1,k2,k3,k4,k5]=eM then(0,Ck.oA d)else(14,zT)):=aa rfl;generalize xh ts nm ⟨tk,[k0,k1,k2,k3,k4,k5]⟩=q at HP HR;clear hP hk;obtain⟨n2,hm2⟩:=hm;have H6:=aa h6;clear h6;simp only[qd,ic,aal,aak];go_enter func276,ntmps276;go_upto_region 1 with fail;obtain⟨w1,hw1,K0,K1,K2,HB⟩:=nP w [m1,.map (some g2)] [.bool tk,.int .i64 k0,.int .i64 k1,.int .i64 k2,.int .i64 k3,.int .i64 k4,.int .i64 k5] [.bool false,.int .i64 0,.int .i64 0,.int .i64 0,.int .i64 0,.int .i64 0,.int .i64 0] 279 137 137;rw[hw1];clear hw1;have HM:=aa (hm2.bZ HB.o hm2.lt);clear hm2;have x0:=K0.o.cell;cases hl:iR ts nm;(case none=>have HE:=aa (show q=(11,zT) by rw[HR.o,hl]);have HL:=aa hl;clear hl HR;go_wp2_with (first|(at_lookup;refine jl _ rfl _ _ _ rfl 91 underlying277 (qM _) g2 n2 (fun nm=>(iR ts nm).map Hh) rfl HM.o nm rfl hn (by rw[HL.o];rfl) ?_;have K3:=aa (K2.o.alloc (.cells #[.int .i64 0,.int .i64 0,.int .i64 0,.int .i64 0,.int .i64 0,.int .i64 0] 91));have eF:=aa (HB.o.alloc HB.o.size (.cells #[.int .i64 0,.int .i64 0,.int .i64 0,.int .i64 0,.int .i64 0,.int .i64 0] 91));clear x0)|(refine cQ rfl _ _ _ rfl _ _ rfl rfl _ K3.o dS rfl rfl ?_;intro w5 K5 gp));exact bodyPost_ret (cO rfl _ _ _ 137 _ _ _ rfl rfl K5.o underlying137 rfl dS) rfl (HP.o _ _ ⟨by rw[HE.o];rfl,cC eF.o gp aac af⟩));case some d=>
  obtain⟨d0,d1,d2,d3,d4,d5,hd⟩:=six (H6.o nm d hl)
  subst hd
  have HL:=aa hl
  replace HR:=aa (show q=if tk then(13,zT)else if[k0,k1,k2,k3,k4,k5]=eM then(0,Ck.oA [d0,d1,d2,d3,d4,d5])else(14,zT) by rw[HR.o,hl])
  clear hl
  have rX:=BD k0 k1 k2 k3 k4 k5 0 0 0 0 0 0
  have HN:=aa (fun W=>xG [d0,d1,d2,d3,d4,d5] W)
  simp only[qd,ic,Ck.oA,aal,aak]at HN
  go_upto_region 2 with(at_lookup;refine iE _ rfl _ _ _ rfl 91 underlying277 (qM _) g2 n2 (fun nm=>(iR ts nm).map Hh) rfl HM.o nm rfl hn (.agg #[bU d0,bU d1,bU d2,bU d3,bU d4,bU d5]) (by rw[HL.o];rfl) ?_)
  have M5:=aa (K1.o.alloc (.cells #[bU d0,bU d1,bU d2,bU d3,bU d4,bU d5] 91))
  have K3:=aa (K2.o.alloc (.cells #[bU d0,bU d1,bU d2,bU d3,bU d4,bU d5] 91))
  have eF:=aa (HB.o.alloc HB.o.size (.cells #[bU d0,bU d1,bU d2,bU d3,bU d4,bU d5] 91))
  have KD:=aa (show cN (w1.alloc (.cells #[bU d0,bU d1,bU d2,bU d3,bU d4,bU d5] 91)) w1 91 [bU d0,bU d1,bU d2,bU d3,bU d4,bU d5]from heap_alloc_new w1 _)
  generalize w1.alloc (.cells #[bU d0,bU d1,bU d2,bU d3,bU d4,bU d5] 91)=w3 at M5 K3 eF KD ⊢
  clear x0
  have x1:=M5.o.cell
  have xd:=KD.o.cell
  cases tk
  case true=>
   have HE:=aa (show q=(13,zT)from HR.o);clear rX;go_wp2_with (refine cQ rfl _ _ _ rfl _ _ rfl rfl _ K3.o dS rfl rfl ?_;intro w5 K5 gp);exact bodyPost_ret (cO rfl _ _ _ 137 _ _ _ rfl rfl K5.o underlying137 rfl dS) rfl (HP.o _ _ ⟨by rw[HE.o];rfl,cC eF.o gp aac af⟩)
  case false=>
   by_cases hz:[k0,k1,k2,k3,k4,k5]=eM;(case pos=>have HE:=aa (show q=(0,Ck.oA [d0,d1,d2,d3,d4,d5]) by rw[HR.o,if_pos hz];rfl);(have hq:∀ W,(binOp .neq 91 (.agg #[bU k0,bU k1,bU k2,bU k3,bU k4,bU k5]) (.agg #[bU 0,bU 0,bU 0,bU 0,bU 0,bU 0])).run prog W= .ok (.bool false) W:=fun W=>by rw[rX,decide_eq_true (show[k0,k1,k2,k3,k4,k5]=[0,0,0,0,0,0]from hz)];rfl);clear rX hz;go_wp2_with (first|(go_at_call 275;refine(HN.o _).mono ?_;rintro e w6 ⟨rfl,eO⟩;have K6:=aa (K3.o.bZ eO K3.o.lt);have eA:=aa (eF.o.trans (eO.mono eF.o.size));clear eO)|(refine cQ rfl _ _ _ rfl _ _ rfl rfl _ K6.o dS rfl rfl ?_;intro w5 K5 gp));exact bodyPost_ret (cO rfl _ _ _ 137 _ _ _ rfl rfl K5.o underlying137 rfl dS) rfl (HP.o _ _ ⟨by rw[HE.o];rfl,cC eA.o gp aac af⟩));have HE:=aa (show q=(14,zT) by rw[HR.o,if_neg hz];rfl);(have hq:∀ W,(binOp .neq 91 (.agg #[bU k0,bU k1,bU k2,bU k3,bU k4,bU k5]) (.agg #[bU 0,bU 0,bU 0,bU 0,bU 0,bU 0])).run prog W= .ok (.bool true) W:=fun W=>by rw[rX,decide_eq_false (show ¬[k0,k1,k2,k3,k4,k5]=[0,0,0,0,0,0]from hz)];rfl);clear rX hz;go_wp2_with (refine cQ rfl _ _ _ rfl _ _ rfl rfl _ K3.o dS rfl rfl ?_;intro w5 K5 gp);exact bodyPost_ret (cO rfl _ _ _ 137 _ _ _ rfl rfl K5.o underlying137 rfl dS) rfl (HP.o _ _ ⟨by rw[HE.o];rfl,cC eF.o gp aac af⟩)
theorem UJ (g1:Nat) (m2:Value) (vs:List fF) (op n:Int) (un nm:ByteArray) (a4:Value) (w:World) (hm:mO w g1 vs) (h6:OT vs) (hu:un.size≤maxLen) (hn:nm.size≤maxLen):Calls prog 244 #[.agg #[.map (some g1),m2],.agg #[bU op,bU n,bV un,bV nm,a4]] w (AL (uH vs op un nm) w):=by
 generalize hP:AL (uH vs op un nm) w=P;have HP:=aa (show ∀ e w',AL (uH vs op un nm) w e w'→P e w' from fun e w' h=>hP▸h);have HR:Hid (uH vs op un nm=(if op=1 then(match iR vs nm with|none=>(11,zT)|some d=>(0,Ck.oA d):Int×nS)else(if(jI un).1=0 then(0,Ck.oA (iu un))else(14,zT):Int×nS))):=aa rfl;generalize uH vs op un nm=q at HP HR;clear hP;obtain⟨n2,hm2⟩:=hm;have H6:=aa h6;clear h6;go_enter func244,ntmps244;go_upto_region 1 with fail;obtain⟨w1,hw1,K0,K1,K2,HB⟩:=nP w [.map (some g1),m2] [.int .i64 op,.int .i64 n,.string un,.string nm,a4] [.bool false,.int .i64 0,.int .i64 0,.int .i64 0,.int .i64 0,.int .i64 0,.int .i64 0] 279 47 137;rw[hw1];clear hw1;have HM:=aa (hm2.bZ HB.o hm2.lt);clear hm2;have x0:=K0.o.cell;have x1:=K1.o.cell;by_cases ho:op=1;case pos=>
  subst ho
  replace HR:=aa (show q=(match iR vs nm with|none=>(11,zT)|some d=>(0,Ck.oA d):Int×nS) by rw[HR.o,if_pos rfl])
  cases hl:iR vs nm
  case none=>
   have HE:=aa (show q=(11,zT) by rw[HR.o,hl]);have HL:=aa hl;clear hl HR;go_wp2_with (first|(at_lookup;refine jl _ rfl _ _ _ rfl 91 underlying277 (qM _) g1 n2 (fun nm=>(iR vs nm).map Hh) rfl HM.o nm rfl hn (by rw[HL.o];rfl) ?_;have K3:=aa (K2.o.alloc (.cells #[bU 0,bU 0,bU 0,bU 0,bU 0,bU 0] 91));have eF:=aa (HB.o.alloc HB.o.size (.cells #[bU 0,bU 0,bU 0,bU 0,bU 0,bU 0] 91));clear x0 x1)|(refine cQ rfl _ _ _ rfl _ _ rfl rfl _ K3.o dS rfl rfl ?_;intro w5 K5 gp));exact bodyPost_ret (cO rfl _ _ _ 137 _ _ _ rfl rfl K5.o underlying137 rfl dS) rfl (HP.o _ _ ⟨by rw[HE.o];rfl,cC eF.o gp aac af⟩)
  case some d=>
   obtain⟨d0,d1,d2,d3,d4,d5,hd⟩:=six (H6.o nm d hl);subst hd;have HL:=aa hl;have HE:=aa (show q=(0,Ck.oA [d0,d1,d2,d3,d4,d5]) by rw[HR.o,hl]);clear hl HR;have HN:=aa (fun W=>xG [d0,d1,d2,d3,d4,d5] W);simp only[qd,ic,Ck.oA,aal,aak]at HN;go_upto_region 3 with(at_lookup;refine iE _ rfl _ _ _ rfl 91 underlying277 (qM _) g1 n2 (fun nm=>(iR vs nm).map Hh) rfl HM.o nm rfl hn (.agg #[bU d0,bU d1,bU d2,bU d3,bU d4,bU d5]) (by rw[HL.o];rfl) ?_);have K3:=aa (K2.o.alloc (.cells #[bU d0,bU d1,bU d2,bU d3,bU d4,bU d5] 91));have eF:=aa (HB.o.alloc HB.o.size (.cells #[bU d0,bU d1,bU d2,bU d3,bU d4,bU d5] 91));have KD:=aa (show cN (w1.alloc (.cells #[bU d0,bU d1,bU d2,bU d3,bU d4,bU d5] 91)) w1 91 [bU d0,bU d1,bU d2,bU d3,bU d4,bU d5]from heap_alloc_new w1 _);generalize w1.alloc (.cells #[bU d0,bU d1,bU d2,bU d3,bU d4,bU d5] 91)=w3 at K3 eF KD ⊢;clear x0 x1;have xd:=KD.o.cell;go_wp2_with (first|(go_at_call 275;refine(HN.o _).mono ?_;rintro e w6 ⟨rfl,eO⟩;have K6:=aa (K3.o.bZ eO K3.o.lt);have eA:=aa (eF.o.trans (eO.mono eF.o.size));clear eO)|(refine cQ rfl _ _ _ rfl _ _ rfl rfl _ K6.o dS rfl rfl ?_;intro w5 K5 gp));exact bodyPost_ret (cO rfl _ _ _ 137 _ _ _ rfl rfl K5.o underlying137 rfl dS) rfl (HP.o _ _ ⟨by rw[HE.o];rfl,cC eA.o gp aac af⟩)
 case neg=>
  have zo:(op==1)=false:=by simpa using ho
  replace HR:=aa (show q=if(jI un).1=0 then(0,Ck.oA (iu un))else(14,zT) by rw[HR.o,if_neg ho])
  have qK:=aa (fun W=>n9 un W hu)
  clear ho
  go_upto_region 7 with(go_at_call 84;refine(qK.o _).mono ?_;rintro e w6 ⟨d0,d1,d2,d3,d4,d5,s',A,nn,c,t,B,m,cc,rfl,hd,_,eO⟩;have K6:=aa (K2.o.bZ eO K2.o.lt);have eA:=aa (HB.o.trans (eO.mono HB.o.size));have HD:=aa (show iu un=[d0,d1,d2,d3,d4,d5]from hd);clear eO hd x0 x1)
  have HN:=aa (fun W=>xG [d0,d1,d2,d3,d4,d5] W)
  simp only[qd,ic,Ck.oA,aal,aak]at HN
  generalize (jI un).1=re at HR ⊢
  have K3:=aa (K6.o.alloc (.cells #[bU d0,bU d1,bU d2,bU d3,bU d4,bU d5,bU s',bW A nn c,bU t,bW B m cc] 165))
  have eF:=aa (eA.o.alloc eA.o.size (.cells #[bU d0,bU d1,bU d2,bU d3,bU d4,bU d5,bU s',bW A nn c,bU t,bW B m cc] 165))
  have KD:=aa (show cN (w6.alloc (.cells #[bU d0,bU d1,bU d2,bU d3,bU d4,bU d5,bU s',bW A nn c,bU t,bW B m cc] 165)) w6 165 [bU d0,bU d1,bU d2,bU d3,bU d4,bU d5,bU s',bW A nn c,bU t,bW B m cc]from heap_alloc_new w6 _)
  generalize w6.alloc (.cells #[bU d0,bU d1,bU d2,bU d3,bU d4,bU d5,bU s',bW A nn c,bU t,bW B m cc] 165)=w3 at K3 eF KD ⊢
  have xd:=KD.o.cell
  by_cases wW:re=0
  case pos=>
   have HE:=aa (show q=(0,Ck.oA [d0,d1,d2,d3,d4,d5]) by rw[HR.o,if_pos wW,HD.o]);subst wW;go_wp2_with (first|(go_at_call 275;refine(HN.o _).mono ?_;rintro e w7 ⟨rfl,nE⟩;have K7:=aa (K3.o.bZ nE K3.o.lt);have ko:=aa (eF.o.trans (nE.mono eF.o.size));clear nE)|(refine cQ rfl _ _ _ rfl _ _ rfl rfl _ K7.o dS rfl rfl ?_;intro w5 K5 gp));exact bodyPost_ret (cO rfl _ _ _ 137 _ _ _ rfl rfl K5.o underlying137 rfl dS) rfl (HP.o _ _ ⟨by rw[HE.o];rfl,cC ko.o gp aac af⟩)
  case neg=>
   have HE:=aa (show q=(14,zT) by rw[HR.o,if_neg wW]);have zr:(re != 0)=true:=(by simpa using wW);clear wW HN;go_wp2_with (refine cQ rfl _ _ _ rfl _ _ rfl rfl _ K3.o dS rfl rfl ?_;intro w5 K5 gp);exact bodyPost_ret (cO rfl _ _ _ 137 _ _ _ rfl rfl K5.o underlying137 rfl dS) rfl (HP.o _ _ ⟨by rw[HE.o];rfl,cC eF.o gp aac af⟩)
end Go.Proofs.YtfppbjfnllhgcaaGreat
namespace Go.Proofs
open Go.Shelf
def Et:Go.Shelf.Ren:=⟨fun|6=>59|15=>98|14=>97|28=>160|29=>161|20=>152|21=>153|22=>154|23=>155|24=>156|25=>157|26=>158|27=>159|46=>215|47=>216|48=>217|49=>218|50=>219|57=>255|n=>n,fun|22=>35|24=>51|25=>81|3=>3|39=>200|0=>0|53=>250|55=>252|4=>4|46=>244|45=>243|50=>179|5=>5|9=>9|66=>293|70=>235|76=>318|77=>319|n=>n,fun|n=>n⟩
theorem y_:Go.Proofs.SlLaysF0.n6 prog Et:=by
 constructor;(case f6=>exact⟨Tryz.f59.name,by decide,Tryz.func59.trans (congrArg some ah)⟩);(case f14=>exact⟨Tryz.f97.name,by decide,Tryz.func97.trans (congrArg some ah)⟩);(case f15=>exact Tryz.func98.trans (congrArg some ah));(case f20=>exact⟨Tryz.f152.name,by decide,Tryz.func152.trans (congrArg some ah)⟩);(case f21=>exact⟨Tryz.f153.name,by decide,Tryz.func153.trans (congrArg some ah)⟩);(case f22=>exact⟨Tryz.f154.name,by decide,Tryz.func154.trans (congrArg some ah)⟩);(case f23=>exact⟨Tryz.f155.name,by decide,Tryz.func155.trans (congrArg some ah)⟩);(case f24=>exact⟨Tryz.f156.name,by decide,Tryz.func156.trans (congrArg some ah)⟩);(case f25=>exact⟨Tryz.f157.name,by decide,Tryz.func157.trans (congrArg some ah)⟩);(case f26=>exact⟨Tryz.f158.name,by decide,Tryz.func158.trans (congrArg some ah)⟩);(case f27=>exact⟨Tryz.f159.name,by decide,Tryz.func159.trans (congrArg some ah)⟩);(case f28=>exact Tryz.func160.trans (congrArg some ah));(case f29=>exact Tryz.func161.trans (congrArg some ah));(case f46=>exact⟨Tryz.f215.name,by decide,Tryz.func215.trans (congrArg some ah)⟩);(case f47=>exact Tryz.func216.trans (congrArg some ah));(case f48=>exact Tryz.func217.trans (congrArg some ah));(case f49=>exact⟨Tryz.f218.name,by decide,Tryz.func218.trans (congrArg some ah)⟩);(case f50=>exact⟨Tryz.f219.name,by decide,Tryz.func219.trans (congrArg some ah)⟩);(case f57=>exact⟨Tryz.f255.name,by decide,Tryz.func255.trans (congrArg some ah)⟩);(all_goals first|kernel_rfl|(intro;kernel_rfl))
def zb:Go.Shelf.Ren:=⟨fun|8=>304|6=>317|n=>n,fun|22=>312|23=>137|25=>357|4=>4|3=>3|0=>0|n=>n,fun|n=>n⟩
theorem Hi:Go.Proofs.SlLaysH0.n8 prog zb:=by
 constructor;(case f6=>exact⟨Tryz.f317.name,by decide,Tryz.func317.trans (congrArg some ah)⟩);(case f8=>exact⟨Tryz.f304.name,by decide,Tryz.func304.trans (congrArg some ah)⟩);(all_goals first|kernel_rfl|(intro;kernel_rfl))
end Go.Proofs
