/- Parts of the proof, packed (CalcD to CalcG); each theorem bears its own conditions. -/
import Derived.Test.YtfppbjfnllhgcaaGreatPp11
set_option linter.unusedVariables false
set_option linter.unusedSimpArgs false
set_option maxRecDepth 100000
set_option maxHeartbeats 8000000
open Go.Proofs.Tryz
open Go.Lib renaming hid → aa
open Nat renaming le_refl→aaB,lt_of_lt_of_le→aaD,le_trans→aaC,zero_le→aaG,lt_succ_self→aaE
open Go.World renaming size_alloc→aaI
open List renaming getElem_mem→aan,length_append→aao,getD_eq_getElem?_getD→aam,mem_singleton→aau,take_of_length_le→aax,mem_cons→aas,length_map→aap,mem_append→aar,take_succ_eq_append_getElem→aaz,mem_map→aat,drop_eq_getElem_cons→aah,length_take→aaq,replicate→aaw,range→aav
open Go.RowKit.Below renaming refl→aaf
open Bool renaming and_eq_true→aag
open Array renaming replicate→aad
theorem bB {p:Prop} (h:p:=by rw[World.size_alloc];have:=fh.o;have:=dH.o.size;have:=o6.o.size;have:=dF.o.size;omega):p:=h
namespace Go.Proofs.YtfppbjfnllhgcaaGreat
open Go Go.RowKit Bg Go.Proofs Sh Kb Ck
theorem Nk:PJ prog 86 158 7:= .of (.agg #[bV ByteArray.empty,bU 0,bU 0,bU 0,bU 0,bU 0,bU 0]) 64 underlying86 ah rfl ak ak
def U3 (vs:List fF) (w:World) (e:Ending) (w':World):Prop:=∃ A c,e= .returned (bW A vs c)∧Sq nQ w' (fun b=>w.heap.size≤b) A vs∧Below w w w'
theorem xI {w w':World} {row:Option Nat} {g:Nat} {t:TypeId} {cs:List Value} (h:w.grownBy w' row) (hr:some g≠row) (k:cN w g t cs):cN w' g t cs:=(h.block g k.lt hr).trans k
theorem DJ {p:Nat} {w0 w1 w5 w8:World} {v:Value} {acc:List fF} {nm:ByteArray} {d0 d1 d2 d3 d4 d5:Int} {u:List Int} (hu:u=[d0,d1,d2,d3,d4,d5]) (hq:dO nQ 158 (p+1) w0 (fun _=>False) v acc) (hb:Below w0 w0 w5):dO nQ 158 (p+1) (w5.alloc (.cells #[bV nm,bU d0,bU d1,bU d2,bU d3,bU d4,bU d5] 158)) (fun _=>False) v acc∧qQ nQ (w5.alloc (.cells #[bV nm,bU d0,bU d1,bU d2,bU d3,bU d4,bU d5] 158)) (fun b=>(fun _=>False) b∧some b≠v.ownBlock) (bY w5 0) [(nm,u)]:=by
 subst hu;refine⟨(hq.bZ hb).bZ (cS _),?_⟩;exact qQ.iM (R:=nQ) (cs:=[_,_,_,_,_,_,_]) rfl _ rfl
theorem QI (a:j6) (s:cK) (w:World) (hI:eo w Any a s) (hZ:gj s) (hl:s.inputs.length≤100000∧s.cells.length≤100000):Calls prog 38 #[.agg (dU a s).toArray] w (U3 (mz s) w):=by
 generalize hP:U3 (mz s) w=P;have HP:=aa (show ∀ e w',U3 (mz s) w e w'→P e w' from fun e w' h=>hP▸h);clear hP;have HL:=aa hl;have HI:=aa hI;have HZ:=aa hZ;clear hI hl hZ;obtain⟨A1,q1,A2,q2,A3,q3,A4,q4,A5,q5,A6,q6,A7,q7,A8,q8⟩:=a;simp only[dU];go_enter func38,ntmps38;go_upto_region 1 with fail;obtain⟨w1,p,hw,hp,K0,fh,HB,iQ,uu⟩:=Ep w (g_ s A1 A2 A3 A4 A5 A6 A7 A8 q1 q2 q3 q4 q5 q6 q7 q8) 31;rw[hw,hp];clear hw hp;obtain⟨n0,hn0⟩:∃ n,n=s.inputs.length:=⟨_,rfl⟩;have HN0:=aa hn0;obtain⟨n1,Vx⟩:∃ n,n=s.cells.length:=⟨_,rfl⟩;have AD:=aa Vx;have hb0:n0≤100000:=(by rw[hn0];exact HL.o.1);have hb1:n1≤100000:=(by rw[Vx];exact HL.o.2);rw[← hn0, ← Vx]at K0;clear hn0 Vx;have HX:=aa (show dO nQ 158 (p+1) w1 (fun _=>False) cD ([]++(s.inputs.take 0).map (fun x=>(x.name,iu x.unit)))from dO.ql);have dH:=aa ((aaf w1 w1).mono fh.o);have x0:=K0.o.cell;go_wp2;go_loopw [3,11] (fun v s8 wr=>∃ k:Nat,k≤n0∧s8=bU (k:Int)∧Hid (dO nQ 158 (p+1) wr (fun _=>False) v ([]++(s.inputs.take k).map (fun x=>(x.name,iu x.unit))))∧Hid (Below (p+1) w1 wr)) (fun _ s8 _=>n0 - (intOf s8).toNat);(case atStart=>exact⟨0,aaG _,rfl,HX,dH⟩);clear HX dH;obtain⟨k,hk,rfl,HQ,dH⟩:=hrel;have cG:=aa (HB.o.trans (dH.o.mono aW));have x0:=(K0.o.bZ dH.o af).cell;by_cases hlt:k<n0;case pos=>
  (have nO:k<s.inputs.length:=by have:=HN0.o;omega);obtain⟨bl,o,cs,hA,_,hbl,ey,cM⟩:=(HI.o.inputs.bZ cG.o).get nO;subst hA;have hsm:=HZ.o.inputs _ (aan nO);have nZ:=aa (show(s.inputs.take (k+1)).map (fun x=>(x.name,iu x.unit))=(s.inputs.take k).map (fun x=>(x.name,iu x.unit))++[(s.inputs[k].name,iu s.inputs[k].unit)] by rw[aaz nO,List.map_append];rfl);have HTl:=aa (show((s.inputs.take k).map (fun x=>(x.name,iu x.unit))).length=k by rw[aap,aaq];omega);generalize s.inputs[k]=it at ey hsm nZ;obtain⟨nm,un,kd⟩:=it;have ey:cs=[bV nm,bV un,bV kd]:=ey;subst ey;have g0:b_ wr bl (o+k*3) (bV nm):=cM 0 _ rfl;have g1:b_ wr bl (o+k*3+1) (bV un):=cM 1 _ rfl;have g2:b_ wr bl (o+k*3+2) (bV kd):=cM 2 _ rfl;have hun:un.size≤maxLen:=hsm.unit;clear cM hsm;dsimp only at nZ;go_upto_region 5 with fail;have KI:=aa (show cN (wr.alloc (.cells #[bV nm,bV un,bV kd] 102)) wr 102 [bV nm,bV un,bV kd]from heap_alloc_new wr _);have o6:=aa (show Below wr wr (wr.alloc (.cells #[bV nm,bV un,bV kd] 102))from cS _);have QJ:=aa (show wr.heap.size<(wr.alloc (.cells #[bV nm,bV un,bV kd] 102)).heap.size by rw[aaI];omega);generalize wr.alloc (.cells #[bV nm,bV un,bV kd] 102)=wd at KI o6 QJ ⊢;clear g0 g1 g2 hbl x0;have BG:=aa (fun W=>tF un hun W);obtain⟨d0,d1,d2,d3,d4,d5,hd⟩:=six (kj un);rw[hd]at BG;simp only[qO]at BG;have HD:=aa hd;clear hd;have Nl:=aa (show ∀ W,Below wd wd W→∀ o',W.cell? (bY wr o')=([bV nm,bV un,bV kd]:List Value)[o']? from fun W h o'=>(h.cell (p:=bY wr o') QJ.o).trans (KI.o.cell o'));have jy:=aa (show Below wd wd wd.drew from⟨rfl,rfl,rfl,aaB _,fun _ _=>rfl⟩);obtain⟨acc,hacc⟩:∃ l,l=[]++(s.inputs.take k).map (fun x=>(x.name,iu x.unit)):=⟨_,rfl⟩;rw[← hacc]at HQ;have QH:=aa hacc;have Mv:=aa (show acc.length≤1000000 by rw[hacc,aao,HTl.o];simp;omega);clear hacc;refine cV (S:=fun w'=>∀ o',w'.cell? (bY wr o')=([bV nm,bV un,bV kd]:List Value)[o']?) [0,1,3,2,4,6,9] [(0,false),(1,false),(3,false),(2,false),(4,false),(5,true),(6,false),(7,true),(8,true),(9,false)] ah ah aq rfl ah (Nl.o _ jy.o) ?_;(iterate 5 refine hwr ?_);refine hwt fun K hK=>?_;go_simp;refine(BG.o _).mono ?_;rintro e w5 ⟨rfl,ew⟩;have dF:=aa (jy.o.trans (ew.mono jy.o.size));have J2:=aa (DJ (nm:=nm) (w1:=w5) (w8:=w5) HD.o HQ.o (o6.o.trans (dF.o.mono o6.o.size)));refine hK.o _ _ (Nl.o _ dF.o) ?_;clear hK K;refine hwr ?_;refine hwt fun K hK=>?_;go_simp;refine hK.o _ _ (Nl.o _ (dF.o.alloc dF.o.size _)) ?_;clear hK K;refine hwt fun K hK=>?_;refine kL (R:=nQ) (S:=fun _=>False) (xs:=acc) (ys:=[(nm,iu un)]) (T:=158) (t:=86) (B:=p+1) (by rfl) (.tmp 15) (.tmp 22) 86 rfl (by rfl) Nk J2.o.1 aG (bY w5 0) 1 1 aG rfl J2.o.2 (by have:=Mv.o;omega) bB rfl (n:=acc.length+1) rfl ?_;intro A9 c9 w9 Ba HG;refine hK.o _ _ (fun o'=>(World.cell?_of_block (a:=bY wr o') (HG.o.turn.block wr (by rw[aaI];have:=QJ.o;have:=dF.o.size;omega) (fun e=>by have:=(HQ.o.lt wr e.symm).2;omega))).trans (Nl.o _ (dF.o.alloc dF.o.size _) o')) ?_;clear hK K;refine hwr ?_;refine eD ?_;(try go_frame);have XN:=aa (show dO nQ 158 (p+1) w9 (fun _=>False) (bW A9 (acc.length+1) c9) ([]++(s.inputs.take (k+1)).map (fun x=>(x.name,iu x.unit))) by rw[nZ.o, ← List.append_assoc, ← QH.o];exact HG.o.own);have l9:Below (p+1) w1 (w5.alloc (.cells #[bV nm,bU d0,bU d1,bU d2,bU d3,bU d4,bU d5] 158)):=((dH.o.trans (o6.o.mono (aaC fh.o dH.o.size))).trans (dF.o.mono (aaC fh.o (aaC dH.o.size o6.o.size)))).alloc (by have:=fh.o;have:=dH.o.size;have:=o6.o.size;have:=dF.o.size;omega) _;have je:=aa (show Below (p+1) w1 w9 from l9.grown HG.o.turn (aaC fh.o l9.size) (fun j e=>(HQ.o.lt j e).1));clear l9 HG;go_wp2;go_roundw;exact⟨k+1,by omega,rfl,XN,je⟩;simp[intOf];omega
 have hfull:s.inputs.take k=s.inputs:=aax (by have:=HN0.o;omega);rw[hfull]at HQ;clear hfull;(obtain rfl:n0=k:=by omega);obtain⟨vs0,hvs⟩:∃ l,l=[]++s.inputs.map (fun x=>(x.name,iu x.unit)):=⟨_,rfl⟩;rw[← hvs]at HQ;have HPl:=aa (show vs0.length≤100000 by rw[hvs];simp only[List.nil_append,aap];exact HL.o.1);have YT:=aa hvs;clear hvs hlt hk;have HX:=aa (show dO nQ 158 (p+1) wr (fun _=>False) _ (vs0++(s.cells.take 0).map (fun x=>(x.name,iu x.unit)))from by simpa using HQ.o);clear HQ;go_wp2;go_loopw [3,28] (fun v s8 wr=>∃ k:Nat,k≤n1∧s8=bU (k:Int)∧Hid (dO nQ 158 (p+1) wr (fun _=>False) v (vs0++(s.cells.take k).map (fun x=>(x.name,iu x.unit))))∧Hid (Below (p+1) w1 wr)) (fun _ s8 _=>n1 - (intOf s8).toNat);(case atStart=>exact⟨0,aaG _,rfl,HX,dH⟩);clear HX dH;obtain⟨k,hk,rfl,HQ,dH⟩:=hrel;have cG:=aa (HB.o.trans (dH.o.mono aW));have x0:=(K0.o.bZ dH.o af).cell;by_cases hlt:k<n1;case pos=>
  (have nO:k<s.cells.length:=by have:=AD.o;omega);obtain⟨bl,o,cs,hA,_,hbl,ey,cM⟩:=(HI.o.cells.bZ cG.o).get nO;subst hA;have hsm:=HZ.o.cells _ (aan nO);have nZ:=aa (show(s.cells.take (k+1)).map (fun x=>(x.name,iu x.unit))=(s.cells.take k).map (fun x=>(x.name,iu x.unit))++[(s.cells[k].name,iu s.cells[k].unit)] by rw[aaz nO,List.map_append];rfl);have HTl:=aa (show((s.cells.take k).map (fun x=>(x.name,iu x.unit))).length=k by rw[aap,aaq];omega);generalize s.cells[k]=it at ey hsm nZ;obtain⟨nm,un,df⟩:=it;obtain⟨es,hcs,hie⟩:=ey;obtain⟨eR,yn,eT,eU,YU,c3,yr,oh,hes,_⟩:=cH.parts hie;subst hes;subst hcs;clear hie oh;have g0:b_ wr bl (o+k*7) (bV nm):=cM 0 _ rfl;have g1:b_ wr bl (o+k*7+1) (bV un):=cM 1 _ rfl;have g2:b_ wr bl (o+k*7+2) (bU eR):=cM 2 _ rfl;have g3:b_ wr bl (o+k*7+3) (bU yn):=cM 3 _ rfl;have g4:b_ wr bl (o+k*7+4) (bV eT):=cM 4 _ rfl;have g5:b_ wr bl (o+k*7+5) (bV eU):=cM 5 _ rfl;have g6:b_ wr bl (o+k*7+6) (bW YU yr c3):=cM 6 _ rfl;have hun:un.size≤maxLen:=hsm.unit;clear cM hsm;dsimp only at nZ;go_upto_region 10 with fail;have KI:=aa (show cN (wr.alloc (.cells #[bV nm,bV un,bU eR,bU yn,bV eT,bV eU,bW YU yr c3] 49)) wr 49 [bV nm,bV un,bU eR,bU yn,bV eT,bV eU,bW YU yr c3]from heap_alloc_new wr _);have o6:=aa (show Below wr wr (wr.alloc (.cells #[bV nm,bV un,bU eR,bU yn,bV eT,bV eU,bW YU yr c3] 49))from cS _);have QJ:=aa (show wr.heap.size<(wr.alloc (.cells #[bV nm,bV un,bU eR,bU yn,bV eT,bV eU,bW YU yr c3] 49)).heap.size by rw[aaI];omega);generalize wr.alloc (.cells #[bV nm,bV un,bU eR,bU yn,bV eT,bV eU,bW YU yr c3] 49)=wd at KI o6 QJ ⊢;clear g0 g1 g2 g3 g4 g5 g6 hbl x0;have BG:=aa (fun W=>tF un hun W);obtain⟨d0,d1,d2,d3,d4,d5,hd⟩:=six (kj un);rw[hd]at BG;simp only[qO]at BG;have HD:=aa hd;clear hd;have Nl:=aa (show ∀ W,Below wd wd W→∀ o',W.cell? (bY wr o')=([bV nm,bV un,bU eR,bU yn,bV eT,bV eU,bW YU yr c3]:List Value)[o']? from fun W h o'=>(h.cell (p:=bY wr o') QJ.o).trans (KI.o.cell o'));have jy:=aa (show Below wd wd wd.drew from⟨rfl,rfl,rfl,aaB _,fun _ _=>rfl⟩);obtain⟨acc,hacc⟩:∃ l,l=vs0++(s.cells.take k).map (fun x=>(x.name,iu x.unit)):=⟨_,rfl⟩;rw[← hacc]at HQ;have QH:=aa hacc;have Mv:=aa (show acc.length≤1000000 by rw[hacc,aao,HTl.o];have:=HPl.o;omega);clear hacc;refine cV (S:=fun w'=>∀ o',w'.cell? (bY wr o')=([bV nm,bV un,bU eR,bU yn,bV eT,bV eU,bW YU yr c3]:List Value)[o']?) [0,1,3,2,4,6,9] [(0,false),(1,false),(3,false),(2,false),(4,false),(5,true),(6,false),(7,true),(8,true),(9,false)] ah ah aq rfl ah (Nl.o _ jy.o) ?_;(iterate 5 refine hwr ?_);refine hwt fun K hK=>?_;go_simp;refine(BG.o _).mono ?_;rintro e w5 ⟨rfl,ew⟩;have dF:=aa (jy.o.trans (ew.mono jy.o.size));have J2:=aa (DJ (nm:=nm) (w1:=w5) (w8:=w5) HD.o HQ.o (o6.o.trans (dF.o.mono o6.o.size)));refine hK.o _ _ (Nl.o _ dF.o) ?_;clear hK K;refine hwr ?_;refine hwt fun K hK=>?_;go_simp;refine hK.o _ _ (Nl.o _ (dF.o.alloc dF.o.size _)) ?_;clear hK K;refine hwt fun K hK=>?_;refine kL (R:=nQ) (S:=fun _=>False) (xs:=acc) (ys:=[(nm,iu un)]) (T:=158) (t:=86) (B:=p+1) (by rfl) (.tmp 32) (.tmp 39) 86 rfl (by rfl) Nk J2.o.1 aG (bY w5 0) 1 1 aG rfl J2.o.2 (by have:=Mv.o;omega) bB rfl (n:=acc.length+1) rfl ?_;intro A9 c9 w9 Ba HG;refine hK.o _ _ (fun o'=>(World.cell?_of_block (a:=bY wr o') (HG.o.turn.block wr (by rw[aaI];have:=QJ.o;have:=dF.o.size;omega) (fun e=>by have:=(HQ.o.lt wr e.symm).2;omega))).trans (Nl.o _ (dF.o.alloc dF.o.size _) o')) ?_;clear hK K;refine hwr ?_;refine eD ?_;(try go_frame);have XN:=aa (show dO nQ 158 (p+1) w9 (fun _=>False) (bW A9 (acc.length+1) c9) (vs0++(s.cells.take (k+1)).map (fun x=>(x.name,iu x.unit))) by rw[nZ.o, ← List.append_assoc, ← QH.o];exact HG.o.own);have l9:Below (p+1) w1 (w5.alloc (.cells #[bV nm,bU d0,bU d1,bU d2,bU d3,bU d4,bU d5] 158)):=((dH.o.trans (o6.o.mono (aaC fh.o dH.o.size))).trans (dF.o.mono (aaC fh.o (aaC dH.o.size o6.o.size)))).alloc (by have:=fh.o;have:=dH.o.size;have:=o6.o.size;have:=dF.o.size;omega) _;have je:=aa (show Below (p+1) w1 w9 from l9.grown HG.o.turn (aaC fh.o l9.size) (fun j e=>(HQ.o.lt j e).1));clear l9 HG;go_wp2;go_roundw;exact⟨k+1,by omega,rfl,XN,je⟩;simp[intOf];omega
 have hfull:s.cells.take k=s.cells:=aax (by have:=AD.o;omega);rw[hfull]at HQ;clear hfull;have HE:=aa (show vs0++s.cells.map (fun x=>(x.name,iu x.unit))=mz s by rw[YT.o];rfl);rw[HE.o]at HQ;obtain⟨A9,c9,hv,_⟩:=HQ.o.slice;subst hv;(obtain rfl:n1=k:=by omega);clear hlt hk;go_wp2;exact HP.o (.returned (bW A9 (mz s).length c9)) _ ⟨A9,c9,rfl,(HQ.o.mono (fun b _ (h:False)=>h.elim)).sq fun b _ h=>by have:=uu.o;omega,cG.o⟩
theorem dO.grownE {α:Type} {R:Rel α} {T B:Nat} {w w':World} {S:Nat→Prop} {v:Value} {xs:List α} {row:Option Nat} (h:dO R T B w S v xs) (hg:w.grownBy w' row) (hr:∀ r,row=some r→r<B) (hS:∀ b,S b→some b≠row):dO R T B w' S v xs:=
 h.Tv hg.size (fun g e=>hg.block g (h.lt g e).2 fun e2=>by have:=hr g e2.symm;have:=(h.lt g e).1;omega) fun b hb hs _=>hg.block b hb (hS b hs)
theorem DK {fs:List cL} {tabs:List dZ} {vs:List fF} (hV:vC vs) (y:cw):(jg (XE fs) fs tabs vs y).2.length=6:=by
 unfold jg;split
 (·rfl);split
 (·rfl);exact Kk hV y
theorem U4 {f:cL} (h:NY f):vC (G3 f):=by
 unfold G3;refine⟨by rw[aap];have:=h.hi;omega,fun v hv=>?_⟩;obtain⟨p,hp,rfl⟩:=aat.1 hv;exact⟨kj p.unit,((h.par p hp).sm).1⟩
theorem Nn {X:cw→Int×cw} {fs l:List cL} {tabs:List dZ} {k:Nat} (hk:k<l.length):nT X fs tabs (l.drop k)=if(jg X fs tabs (G3 l[k]) l[k].body).1=0 then nT X fs tabs (l.drop (k+1))else(jg X fs tabs (G3 l[k]) l[k].body).1:=by
 rw[aah hk,nT]
def Np (r:Int) (w:World) (e:Ending) (w':World):Prop:=∃ nm,e= .returned (.tuple #[bU r,bV nm])∧Below w w w'
theorem QK (a:j6) (s:cK) (w:World) (hI:eo w Any a s) (hO:vB s.funcs s.tables):Calls prog 37 #[.agg (dU a s).toArray] w (Np (nT (XE s.funcs) s.funcs s.tables s.funcs) w):=by
 obtain⟨q,hq⟩:∃ q,q=nT (XE s.funcs) s.funcs s.tables s.funcs:=⟨_,rfl⟩;rw[← hq];have HR:=aa hq;clear hq;generalize hP:Np q w=P;have HP:=aa (show ∀ e w',Np q w e w'→P e w' from fun e w' h=>hP▸h);clear hP;have HI:=aa hI;have HO:=aa hO;(have hfl:s.funcs.length≤1000000:=by obtain⟨r,hX⟩:=hO.X;have:=hX.len;omega);clear hI hO;obtain⟨A1,q1,A2,q2,A3,q3,A4,q4,A5,q5,A6,q6,A7,q7,A8,q8⟩:=a;simp only[dU];go_enter func37,ntmps37;go_upto_region 1 with fail;obtain⟨w1,p,hw,hp,K0,fh,HB,iQ,uu⟩:=Ep w (g_ s A1 A2 A3 A4 A5 A6 A7 A8 q1 q2 q3 q4 q5 q6 q7 q8) 31;rw[hw,hp];clear hw hp;have dH:=aa ((aaf w1 w1).mono fh.o);have x0:=K0.o.cell;go_wp2;go_loopw [14] (fun v wr=>∃ k:Nat,k≤s.funcs.length∧v=bU (k:Int)∧Hid (nT (XE s.funcs) s.funcs s.tables s.funcs=nT (XE s.funcs) s.funcs s.tables (s.funcs.drop k))∧Hid (Below (p+1) w1 wr)) (fun v _=>s.funcs.length - (intOf v).toNat);(case atStart=>exact⟨0,aaG _,rfl,aa rfl,dH⟩);case round=>
  clear dH
  obtain⟨k,hk,rfl,HF,dH⟩:=hrel
  rename World=>wo
  have cG:=aa (iQ.o _ dH.o)
  have x0:=(K0.o.bZ dH.o af).cell
  by_cases hlt:k<s.funcs.length
  case pos=>
   obtain⟨bl,o,cs,hA,_,hbl,ey,cM⟩:=(HI.o.funcs.bZ cG.o).get hlt;subst hA;have HFO:=aa (HO.o.F.one _ (aan hlt)).1;have uo:=aa (Nn (X:=XE s.funcs) (fs:=s.funcs) (l:=s.funcs) (tabs:=s.tables) hlt);have xQ:=aa (fun(VA:Option Addr) (vc:Nat) ds W (h:Below w w W) (hvs:Sq nQ W Any VA (G3 s.funcs[k])) (hi:cH W Any ds s.funcs[k].body)=>DI (bY bl o) A3 VA q4 q3 vc s.funcs s.tables (G3 s.funcs[k]) HO.o (U4 HFO.o) (bV s.name) (bW A1 s.imports q1) (bW A2 s.inputs q2) (bW A5 s.cells q5) (bW A6 s.ei q6) (bW A7 s.stores q7) (bW A8 s.cI q8) s.funcs[k].body HFO.o.body ds W (HI.o.funcs.bZ h) (HI.o.tables.bZ h) hvs hi);have XW:=aa (DK (fs:=s.funcs) (tabs:=s.tables) (U4 HFO.o) s.funcs[k].body);obtain⟨vs,hvs⟩:∃ l,l=G3 s.funcs[k]:=⟨_,rfl⟩;rw[← hvs]at uo xQ XW;have YT:=aa (show s.funcs[k].params.map (fun p=>(p.name,iu p.unit))=vs by rw[hvs];rfl);clear hvs;have hnp:s.funcs[k].params.length≤6:=HFO.o.hi;have hps:∀ p∈s.funcs[k].params,p.unit.size≤maxLen:=fun p hp=>((HFO.o.par p hp).sm).2;clear HFO;obtain⟨PA,pd,es,G5,hsp,hie⟩:=ey;obtain⟨eR,yn,eT,eU,A9,c9,yr,oh,hes,_⟩:=cH.parts hie;subst hes;subst G5;clear oh;generalize s.funcs[k].body=bd at uo xQ XW hie;generalize s.funcs[k].params=ps at hsp YT hnp hps cM;generalize s.funcs[k].name=fn at cM;generalize jg (XE s.funcs) s.funcs s.tables vs bd=cq at uo xQ XW;obtain⟨ce,cd⟩:=cq;obtain⟨d0,d1,d2,d3,d4,d5,hcd⟩:=six (show cd.length=6 from XW.o);subst hcd;dsimp only at uo;obtain⟨np,hnp2⟩:∃ n,n=ps.length:=⟨_,rfl⟩;have HNp:=aa hnp2;rw[← hnp2]at cM hnp;clear hnp2;obtain⟨ny,Zg⟩:∃ n,n=yr.length:=⟨_,rfl⟩;rw[← Zg]at hie cM;clear Zg;have g0:b_ wo bl (o+k*7) (bV fn):=cM 0 _ rfl;have g1:b_ wo bl (o+k*7+1) (bW PA np pd):=cM 1 _ rfl;have g2:b_ wo bl (o+k*7+2) (.int .i64 eR):=cM 2 _ rfl;have g3:b_ wo bl (o+k*7+3) (.int .i64 yn):=cM 3 _ rfl;have g4:b_ wo bl (o+k*7+4) (bV eT):=cM 4 _ rfl;have g5:b_ wo bl (o+k*7+5) (bV eU):=cM 5 _ rfl;have g6:b_ wo bl (o+k*7+6) (bW A9 ny c9):=cM 6 _ rfl;have HIe:=aa hie;have NJ:=aa hsp;have HPs:=aa hps;clear cM hie hsp hps;go_upto_region 4 with fail;have hpr:p<wo.heap.size:=aaD K0.o.lt dH.o.size;go_upto_region 5 with fail;obtain⟨wd,hwd,Kf,Ks,jy⟩:=Dr wo [bV fn,bW PA np pd,.int .i64 eR,.int .i64 yn,bV eT,bV eU,bW A9 ny c9] [bV s.name,bW A1 s.imports q1,bW A2 s.inputs q2,bW A3 s.tables q3,bW (bY bl o) s.funcs q4,bW A5 s.cells q5,bW A6 s.ei q6,bW A7 s.stores q7,bW A8 s.cI q8,cD] 69 89;rw[hwd];clear hwd g0 g1 g2 g3 g4 g5 g6 x0 hpr;obtain⟨g,hg⟩:∃ g,g=wo.heap.size:=⟨_,rfl⟩;have vr:=aa hg;rw[← hg]at Kf Ks ⊢;clear hg;have Ll:=aa (show g+2≤wd.heap.size by have:=Ks.o.lt;omega);have HLw:=aa (show p+1≤g by have:=vr.o;have:=fh.o;have:=dH.o.size;omega);have dG:=aa (show ∀ W,Below (g+1) wd W→Below wo wo W from fun W h=>jy.o.trans (h.mono (by have:=vr.o;omega)));have x5:=Kf.o.cell;have HQ0:=aa (show dO nQ 158 (g+2) wd (fun _=>False) cD ((ps.take 0).map (fun p=>(p.name,iu p.unit)))from dO.ql);have iD:=aa (show Below (g+1) wd wd from(aaf wd wd).mono (by have:=Ll.o;omega));go_wp2;go_loopw [23] (fun v wq=>∃ (j:Nat) (V:Value),j≤np∧v= .int .i64 (j:Int)∧Hid (dO nQ 158 (g+2) wq (fun _=>False) V ((ps.take j).map (fun p=>(p.name,iu p.unit))))∧Hid (cN wq (g+1) 89 [bV s.name,bW A1 s.imports q1,bW A2 s.inputs q2,bW A3 s.tables q3,bW (bY bl o) s.funcs q4,bW A5 s.cells q5,bW A6 s.ei q6,bW A7 s.stores q7,bW A8 s.cI q8,V])∧Hid (Below (g+1) wd wq)) (fun v _=>np - (intOf v).toNat);(case atStart=>exact⟨0,_,aaG _,rfl,HQ0,Ks,iD⟩);clear HQ0 iD Ks x5;obtain⟨j,V,hj,rfl,HQ,KQ,DW⟩:=hrel;have sP:=aa (dG.o _ DW.o);have x5:=(Kf.o.bZ DW.o af).cell;by_cases hjn:j<np;case pos=>
    (have hjl:j<ps.length:=by have:=HNp.o;omega);obtain⟨bp,XT,csp,hAp,_,D_,hisp,Km⟩:=(NJ.o.bZ sP.o).get hjl;subst hAp;have hisp:csp=[bV ps[j].name,bV ps[j].unit]:=hisp;subst hisp;have hun:=HPs.o _ (aan hjl);have nZ:=aa (show(ps.take (j+1)).map (fun p=>(p.name,iu p.unit))=(ps.take j).map (fun p=>(p.name,iu p.unit))++[(ps[j].name,iu ps[j].unit)] by rw[aaz hjl,List.map_append];rfl);have Mv:=aa (show((ps.take j).map (fun p=>(p.name,iu p.unit))).length≤1000000 by rw[aap,aaq];omega);generalize ps[j]=it at hun nZ Km;obtain⟨pn,pu⟩:=it;dsimp only at hun nZ Km;have h0:b_ wr bp (XT+j*2) (bV pn):=Km 0 _ rfl;have h1:b_ wr bp (XT+j*2+1) (bV pu):=Km 1 _ rfl;clear Km;go_upto_region 8 with fail;have KI:=aa (show cN (wr.alloc (.cells #[bV pn,bV pu] 112)) wr 112 [bV pn,bV pu]from heap_alloc_new wr _);have o6:=aa (show Below wr wr (wr.alloc (.cells #[bV pn,bV pu] 112))from cS _);have QJ:=aa (show wr.heap.size<(wr.alloc (.cells #[bV pn,bV pu] 112)).heap.size by rw[aaI];omega);generalize wr.alloc (.cells #[bV pn,bV pu] 112)=we at KI o6 QJ ⊢;clear h0 h1 D_ x5;have BG:=aa (fun W=>tF pu hun W);obtain⟨u0,u1,u2,u3,u4,u5,hd⟩:=six (kj pu);rw[hd]at BG;simp only[qO]at BG;have HD:=aa hd;clear hd;have Nl:=aa (show ∀ W,Below we we W→b_ W (g+1) 9 V∧∀ o',W.cell? (bY wr o')=([bV pn,bV pu]:List Value)[o']? from fun W h=>⟨((h.cell (p:=bY (g+1) 9) (Nat.lt_trans KQ.o.lt QJ.o)).trans (o6.o.cell (p:=bY (g+1) 9) KQ.o.lt)).trans (KQ.o.cell 9),fun o'=>(h.cell (p:=bY wr o') QJ.o).trans (KI.o.cell o')⟩);have MW:=aa (show ∀ w5 W,Below we we w5→w5.grownBy W V.ownBlock→b_ W (g+1) 9 V∧∀ o',W.cell? (bY wr o')=([bV pn,bV pu]:List Value)[o']? from fun w5 W h hg=>⟨(World.cell?_of_block (a:=bY (g+1) 9) (hg.block (g+1) (by have:=h.size;have:=KQ.o.lt;have:=QJ.o;omega) (fun e=>by have:=(HQ.o.lt (g+1) e.symm).1;omega))).trans (Nl.o _ h).1,fun o'=>(World.cell?_of_block (a:=bY wr o') (hg.block wr (by have:=h.size;have:=QJ.o;omega) (fun e=>by have:=(HQ.o.lt wr e.symm).2;omega))).trans ((Nl.o _ h).2 o')⟩);have pg:=aa (show Below we we we.drew from⟨rfl,rfl,rfl,aaB _,fun _ _=>rfl⟩);obtain⟨acc,hacc⟩:∃ l,l=(ps.take j).map (fun p=>(p.name,iu p.unit)):=⟨_,rfl⟩;rw[← hacc]at HQ nZ Mv;clear hacc;refine cV (S:=fun w'=>b_ w' (g+1) 9 V∧∀ o',w'.cell? (bY wr o')=([bV pn,bV pu]:List Value)[o']?) [0,2,4,1,3,5,7,10] [(0,false),(2,false),(4,false),(1,false),(3,false),(5,false),(6,true),(7,false),(8,true),(9,true),(10,false),(11,true)] ah ah aq rfl ah (Nl.o _ pg.o) ?_;(iterate 6 refine hwr ?_);refine hwt fun K hK=>?_;go_simp;refine(BG.o _).mono ?_;rintro e w5 ⟨rfl,ew⟩;have dF:=aa (pg.o.trans (ew.mono pg.o.size));have J2:=aa (DJ (nm:=pn) (w1:=w5) (w8:=w5) HD.o HQ.o (o6.o.trans (dF.o.mono o6.o.size)));refine hK.o _ _ (Nl.o _ dF.o) ?_;clear hK K;refine hwr ?_;refine hwt fun K hK=>?_;go_simp;refine hK.o _ _ (Nl.o _ (dF.o.alloc dF.o.size _)) ?_;clear hK K;refine hwt fun K hK=>?_;refine kL (R:=nQ) (S:=fun _=>False) (xs:=acc) (ys:=[(pn,iu pu)]) (T:=158) (t:=86) (B:=g+2) (by rfl) (.tmp 28) (.tmp 35) 86 rfl (by rfl) Nk J2.o.1 aG (bY w5 0) 1 1 aG rfl J2.o.2 (by have:=Mv.o;omega) (by rw[aaI];have:=Ll.o;have:=DW.o.size;have:=o6.o.size;have:=dF.o.size;omega) rfl (n:=acc.length+1) rfl ?_;intro B7 b7 w9 nE HG;refine hK.o _ _ (MW.o _ _ (dF.o.alloc dF.o.size _) HG.o.turn) ?_;clear hK K;refine hwr ?_;refine xN fun K hK=>?_;have KS9:=aa (xI HG.o.turn (fun e=>by have:=(HQ.o.lt (g+1) e.symm).1;omega) ((KQ.o.bZ (o6.o.trans (dF.o.mono o6.o.size)) KQ.o.lt).alloc (.cells #[bV pn,bU u0,bU u1,bU u2,bU u3,bU u4,bU u5] 158)));have s9:=KS9.o.cell;have f9:=KS9.o.frozen;go_simp;refine hK.o _ _ ?_;clear hK K;refine eD ?_;(try go_frame);have XN:=aa (show dO nQ 158 (g+2) (w9.setCell (bY (g+1) 9) (bW B7 (acc.length+1) b7)) (fun _=>False) (bW B7 (acc.length+1) b7) ((ps.take (j+1)).map (fun p=>(p.name,iu p.unit))) by rw[nZ.o];exact HG.o.own.grownE (fJ (World.grownBy.refl w9 (some (g+1))) 9 _) (fun r e=>by cases e;omega) (fun b h=>h.elim));have K9:=aa (show cN (w9.setCell (bY (g+1) 9) (bW B7 (acc.length+1) b7)) (g+1) 89 [bV s.name,bW A1 s.imports q1,bW A2 s.inputs q2,bW A3 s.tables q3,bW (bY bl o) s.funcs q4,bW A5 s.cells q5,bW A6 s.ei q6,bW A7 s.stores q7,bW A8 s.cI q8,bW B7 (acc.length+1) b7]from KS9.o.eB 9 _);have l9:Below (g+1) wd (w5.alloc (.cells #[bV pn,bU u0,bU u1,bU u2,bU u3,bU u4,bU u5] 158)):=((DW.o.trans (o6.o.mono (by have:=KQ.o.lt;omega))).trans (dF.o.mono (by have:=KQ.o.lt;have:=o6.o.size;omega))).alloc (by have:=KQ.o.lt;have:=o6.o.size;have:=dF.o.size;omega) _;have o_:Below (g+1) wd w9:=l9.grown HG.o.turn (aaC (by have:=Ll.o;omega) l9.size) (fun j e=>by have:=(HQ.o.lt j e).1;omega);have je:=aa (show Below (g+1) wd (w9.setCell (bY (g+1) 9) (bW B7 (acc.length+1) b7))from cC o_ (fJ (World.grownBy.refl w9 (some (g+1))) 9 _) (by have:=Ll.o;omega) aac);clear o_ l9 HG s9 f9 KS9;go_wp2;go_roundw;exact⟨j+1,_,by omega,rfl,XN,K9,je⟩;simp[intOf];omega
   have hfull:ps.take j=ps:=aax (by have:=HNp.o;omega);rw[hfull,YT.o]at HQ;clear hfull;obtain⟨VA,vc,hv,_⟩:=HQ.o.slice;subst hv;have rZ:=xQ.o VA vc [bU eR,bU yn,bV eT,bV eU,bW A9 ny c9] wr (cG.o.trans (sP.o.mono cG.o.size)) ((HQ.o.mono (fun b _ (h:False)=>h.elim)).sq fun _ _ _=>trivial) (di.keep HIe.o (cB.cA sP.o));have ua:Hid (Calls prog 39 #[.agg #[bV s.name,bW A1 s.imports q1,bW A2 s.inputs q2,bW A3 s.tables q3,bW (bY bl o) s.funcs q4,bW A5 s.cells q5,bW A6 s.ei q6,bW A7 s.stores q7,bW A8 s.cI q8,bW VA vs vc],.agg #[bU eR,bU yn,bV eT,bV eU,bW A9 ny c9]] wr fun e w'=>e= .returned (.tuple #[.agg #[bU d0,bU d1,bU d2,bU d3,bU d4,bU d5],bU ce])∧Below wr wr w'):=by
    refine aa (rZ.mono ?_);rintro e w' ⟨h2,h3⟩;refine⟨h2.trans ?_,h3⟩;show Ending.returned (.tuple #[.agg (ic [d0,d1,d2,d3,d4,d5]).toArray,bU ce])=_;rw[qO]
   have s1:=KQ.o.cell;clear rZ;go_upto_region 11 with(go_at_call 39;refine ua.o.mono ?_;rintro e w5 ⟨rfl,ew⟩;have dF:=aa (DW.o.trans (ew.mono (by have:=KQ.o.lt;omega)));clear ew x5 s1);have eA:=aa (dF.o.alloc (by have:=Ll.o;have:=dF.o.size;omega) (.cells #[bU d0,bU d1,bU d2,bU d3,bU d4,bU d5] 91));generalize w5.alloc (.cells #[bU d0,bU d1,bU d2,bU d3,bU d4,bU d5] 91)=w6 at eA ⊢;have x5:=(Kf.o.bZ eA.o af).cell;have ko:=aa (show Below (p+1) w1 w6 from dH.o.trans ((dG.o _ eA.o).mono (by have:=fh.o;have:=dH.o.size;omega)));by_cases h0:ce=0;(case pos=>have Mi:=aa (show nT (XE s.funcs) s.funcs s.tables s.funcs=nT (XE s.funcs) s.funcs s.tables (s.funcs.drop (k+1)) by rw[HF.o,uo.o,if_pos h0]);subst h0;go_wp2;go_roundw;exact⟨k+1,by omega,rfl,Mi,ko⟩;simp[intOf];omega);have HE:=aa (show q=ce by rw[HR.o,HF.o,uo.o,if_neg h0]);have zr:(ce != 0)=true:=aS;clear h0;go_wp2_with fail;go_quiet (fail);have lD:=aa (below_drewN ko.o nq);generalize w6.drewN nq=w7 at lD ⊢;go_wp2;exact HP.o (.returned (.tuple #[bU ce,bV fn])) _ ⟨_,by rw[HE.o],iQ.o _ lD.o⟩
  case neg=>
   have HE:=aa (show q=0 by rw[HR.o,HF.o,List.drop_eq_nil_of_le af,nT]);go_wp2;exact HP.o (.returned (.tuple #[bU 0,bV ⟨#[]⟩])) _ ⟨_,by rw[HE.o],cG.o⟩
def tG (W:ByteArray→Option Int) (op:Int) (nm:ByteArray):Int:=if op=0∨op=2 then 1 else if op=1 then(W nm).getD 1 else 0
theorem U5 (W:ByteArray→Option Int) (op n:Int) (u nm:ByteArray) (l:List cw):J4 W (.mk op n u nm l)=wL W (tG W op nm) l:=by rw[J4];rfl
theorem OX (W:ByteArray→Option Int) (o:Int) (y:cw) (l:List cw):wL W o (y :: l)=wL W (min (o+J4 W y) 101) l:=by rw[wL]
def WOK (W:ByteArray→Option Int):Prop:=∀ nm v,W nm=some v→0≤v∧v≤101
theorem AP {W:ByteArray→Option Int} (hW:WOK W) (op:Int) (nm:ByteArray):0≤tG W op nm∧tG W op nm≤101:=by
 unfold tG;split
 (·omega);split
 ·cases h:W nm with
  |none=>exact⟨by decide,by decide⟩
  |some v=>exact hW nm v h
 omega
theorem Ko {W:ByteArray→Option Int}:∀ (l:List cw) (o:Int),(∀ y∈l,0≤J4 W y∧J4 W y≤101)→0≤o∧o≤101→0≤wL W o l∧wL W o l≤101
 |[],o,_,ho=>by rw[wL];exact ho
 |y :: l,o,h,ho=>by
  rw[OX];have:=h y ai;exact Ko l _ (fun z hz=>h z (by simp[hz])) af
theorem FI {W:ByteArray→Option Int} (hW:WOK W) (N:Nat):∀ x:cw,cE x≤N→0≤J4 W x∧J4 W x≤101:=by
 induction N with
 |zero=>intro x hx;have:=dB x;omega
 |succ N ih=>
  intro x hx;obtain⟨op,n,u,nm,l⟩:=x;have hn:cE (.mk op n u nm l)=1+cT l:=aM;rw[U5];exact Ko l _ (fun y hy=>ih y aQ) (AP hW op nm)
def wV (W:ByteArray→Option Int) (nm:ByteArray):Option Value:=(W nm).map (.int .i64 ·)
theorem Hs (gi ni:Nat) (W:ByteArray→Option Int) (hW:WOK W) (N:Nat):∀ (x:cw),cE x≤N→lZ x→cE x≤1000000→∀ (w:World) (cs:List Value),fP w gi ni (wV W)→cH w Any cs x→Calls prog 43 #[.map (some gi),.agg cs.toArray] w (QF (J4 W x) w):=by
 induction N with
 |zero=>intro x hx;have:=dB x;omega
 |succ N ih=>
  intro x hx hsm hx2 w cs hMI hI
  obtain⟨q,hq⟩:∃ q,q=J4 W x:=⟨_,rfl⟩
  rw[← hq]
  generalize hP:QF q w=P
  have HP:=aa (show ∀ e w',QF q w e w'→P e w' from fun e w' h=>hP▸h)
  clear hP
  obtain⟨op,n,un,nm,A2,c2,ar,e1,e2,hS⟩:=cH.parts hI
  subst e1 e2
  rw[U5]at hq
  have vE:cE (.mk op n un nm ar)=1+cT ar:=by unfold cE;rfl
  have hnl:=fN ar
  have har:ar.length≤1000000:=by omega
  have Bh:nm.size≤maxLen:=by unfold lZ at hsm;exact hsm.2.1
  have vK:=aa (show ∀ y∈ar,lZ y from by unfold lZ at hsm;exact hsm.2.2.mem)
  have um:=aa (fun y (hy:y∈ar)=>ih y aZ (vK.o y hy) aZ)
  have YV:=aa (fun y=>FI hW (cE y) y aac)
  have DX:=aa (AP hW op nm)
  have HA:=aa hS
  have oG:=aa (show cN (w.alloc (.cells #[bU op,bU n,bV un,bV nm,bW A2 ar c2] 47)) w 47 [bU op,bU n,bV un,bV nm,bW A2 ar c2]from heap_alloc_new w _)
  have j3:=aa (hMI.alloc (.cells #[bU op,bU n,bV un,bV nm,bW A2 ar c2] 47))
  have gT:=aa ((aaf w w).alloc aac (.cells #[bU op,bU n,bV un,bV nm,bW A2 ar c2] 47))
  clear hI hS hMI ih hsm hx hx2 vE hnl vK hW
  obtain⟨la,hla⟩:∃ la,la=ar.length:=⟨_,rfl⟩
  have Rg:=aa hla
  rw[← hla]at oG j3 gT har ⊢
  clear hla
  go_enter func43,ntmps43
  go_upto_region 1 with fail
  generalize (w.alloc (.cells #[bU op,bU n,bV un,bV nm,bW A2 la c2] 47))=w1 at oG j3 gT ⊢
  have x1:=oG.o.cell
  have four:(∃ o0,o0=tG W op nm∧o0=1∧(op=0∨op=2))∨(op=1∧W nm=none)∨(op=1∧∃ v,W nm=some v)∨(¬op=0∧¬op=1∧¬op=2):=by
   by_cases h0:op=0∨op=2
   (·exact .inl ⟨_,rfl,by unfold tG;rw[if_pos h0],h0⟩);by_cases h1:op=1
   ·cases h:W nm with
    |none=>exact .inr (.inl ⟨h1,rfl⟩)
    |some v=>exact .inr (.inr (.inl ⟨h1,v,rfl⟩))
   exact .inr (.inr (.inr ⟨fun h=>h0 (.inl h),h1,fun h=>h0 (.inr h)⟩))
  rcases four with⟨_,_,_,h02⟩|⟨h1,Ei⟩|⟨h1,v,Ei⟩|⟨h0,h1,h2⟩
  case' inl=>
   have HQ:=aa (show q=wL W 1 ar by rw[hq];unfold tG;rw[if_pos h02])
   have hr:(0:Int)≤1∧(1:Int)≤101:=by decide
   have z12:(op==0)=true∨((op==0)=false∧(op==2)=true):=by
    by_cases h:op=0
    (·exact .inl aK);exact .inr ⟨by simpa using h,by simpa using h02.resolve_left h⟩
   clear hq DX h02
   rcases z12 with z1|⟨z1,z2⟩
   case' inl=>go_upto_region 11 with fail
   case' inr=>go_upto_region 11 with fail
  case' inr.inl=>
   have HQ:=aa (show q=wL W 1 ar by rw[hq];unfold tG;rw[if_neg af,if_pos h1,Ei];rfl)
   have hr:(0:Int)≤1∧(1:Int)≤101:=by decide
   subst h1
   clear hq DX
   go_upto_region 11 with(at_lookup;refine jl _ rfl _ _ _ rfl 3 underlying97 (tu _) gi ni (wV W) rfl j3.o nm rfl Bh (by unfold wV;rw[Ei];rfl) ?_)
  case' inr.inr.inl=>
   have HQ:=aa (show q=wL W v ar by rw[hq];unfold tG;rw[if_neg af,if_pos h1,Ei];rfl)
   have hr:(0:Int)≤v∧v≤101:=by
    have:=DX.o;unfold tG at this;rw[if_neg af,if_pos h1,Ei]at this;exact this
   subst h1
   clear hq DX
   go_upto_region 11 with(at_lookup;refine iE _ rfl _ _ _ rfl 3 underlying97 (tu _) gi ni (wV W) rfl j3.o nm rfl Bh (bU v) (by unfold wV;rw[Ei];rfl) ?_)
  case' inr.inr.inr=>
   have HQ:=aa (show q=wL W 0 ar by rw[hq];unfold tG;rw[if_neg af,if_neg h1])
   have hr:(0:Int)≤0∧(0:Int)≤101:=by decide
   have z0:(op==0)=false:=by simpa using h0
   have z1:(op==1)=false:=by simpa using h1
   have z2:(op==2)=false:=by simpa using h2
   clear hq DX h0 h1 h2
   go_upto_region 11 with fail
  all_goals (
   go_wp2_with fail
   go_loopw [5,30] (fun s5 Z5 wr=>∃ (k:Nat) (oo:Int),k≤la∧s5=bU oo∧Z5=bU (k:Int)∧0≤oo∧oo≤101∧Hid (q=wL W oo (ar.drop k))∧Hid (fP wr gi ni (wV W))∧Hid (Below w w wr)) (fun _ Z5 _=>la - (intOf Z5).toNat)
   case atStart=>exact⟨0,_,aaG _,rfl,rfl,hr.1,hr.2,HQ,j3,gT⟩
   case round=>
    clear j3 gT HQ hr x1 oG;obtain⟨k,oo,hk,rfl,rfl,hr0,hr1,HQ,j3,HB⟩:=hrel;by_cases hlt:k<la;(case pos=>(have nO:k<ar.length:=by have:=Rg.o;omega);obtain⟨bl,o,cs,hA,yK,hbl,ey,cM⟩:=(HA.o.bZ HB.o).get nO;subst hA;have hmem:=aan nO;have HD:=aa (show wL W oo (ar.drop k)=wL W (min (oo+J4 W ar[k]) 101) (ar.drop (k+1)) by rw[aah nO,OX]);have AH:=um.o _ hmem;have hyr:=YV.o ar[k];obtain⟨eR,yn,eT,eU,A3,c3,yr,oh,hes,_⟩:=cH.parts ey;generalize ar[k]=y at ey HD AH oh hyr;generalize J4 W y=wy at HD AH hyr;subst hes;have g0:b_ wr bl (o+k*5) (bU eR):=cM 0 _ rfl;have g1:b_ wr bl (o+k*5+1) (bU yn):=cM 1 _ rfl;have g2:b_ wr bl (o+k*5+2) (bV eT):=cM 2 _ rfl;have g3:b_ wr bl (o+k*5+3) (bV eU):=cM 3 _ rfl;have g4:b_ wr bl (o+k*5+4) (bW A3 yr c3):=cM 4 _ rfl;have HY:=aa (show cN (wr.alloc (.cells #[bU eR,bU yn,bV eT,bV eU,bW A3 yr c3] 47)) wr 47 [bU eR,bU yn,bV eT,bV eU,bW A3 yr c3]from heap_alloc_new wr _);have fO:Below wr wr (wr.alloc (.cells #[bU eR,bU yn,bV eT,bV eU,bW A3 yr c3] 47)):=cS _;have HC:=aa (AH _ _ (j3.o.bZ fO j3.o.lt) (di.keep ey (cB.cA fO)));have cG:=aa (HB.o.trans (fO.mono HB.o.size));have HMd:=aa (j3.o.bZ fO j3.o.lt);clear cM ey oh fO AH j3 HB;go_upto_region 14 with fail;generalize (wr.alloc (.cells #[bU eR,bU yn,bV eT,bV eU,bW A3 yr c3] 47))=wd at HY HC cG HMd ⊢;clear g0 g1 g2 g3 g4;have z1:=HY.o.cell;go_upto_region 15 with(go_at_call 43;refine HC.o.mono ?_;rintro e w5 ⟨rfl,ew⟩;have dF:=aa (cG.o.trans (ew.mono cG.o.size));have J2:=aa (HMd.o.bZ ew HMd.o.lt);clear ew z1);have F3:=aa (show q=wL W (min (oo+wy) 101) (ar.drop (k+1)) by rw[HQ.o,HD.o]);clear HQ HD;go_wp2;go_roundw;exact⟨k+1,_,by omega,rfl,rfl,by omega,by omega,F3,J2,dF⟩;simp[intOf];omega);have HE:=aa (show q=oo by rw[HQ.o,List.drop_eq_nil_of_le (by have:=Rg.o;omega),wL]);clear HQ;go_wp2;exact HP.o (.returned (bU oo)) _ ⟨by rw[HE.o],HB.o⟩)
end Go.Proofs.YtfppbjfnllhgcaaGreat
namespace Go.Proofs
open Go.Shelf
def Ew:Go.Shelf.Ren:=⟨fun|8=>141|6=>211|n=>n,fun|22=>38|23=>3|25=>156|4=>4|3=>3|0=>0|n=>n,fun|n=>n⟩
theorem FJ:Go.Proofs.SlLaysH.n8 prog Ew:=by
 constructor;(case f6=>exact⟨Tryz.f211.name,by decide,Tryz.func211.trans (congrArg some ah)⟩);(case f8=>exact⟨Tryz.f141.name,by decide,Tryz.func141.trans (congrArg some ah)⟩);(all_goals first|kernel_rfl|(intro;kernel_rfl))
end Go.Proofs
namespace Kn
inductive Path (g:List (List Nat)):Nat→Nat→Prop
 |refl (a:Nat):Path g a a
 |step {a b c:Nat}:b∈g.getD a []→Path g b c→Path g a c
theorem Path.trans {g:List (List Nat)} {a b c:Nat} (h:Path g a b) (k:Path g b c):Path g a c:=by
 induction h with
 |refl=>exact k
 |step h1 _ ih=>exact .step h1 (ih k)
def iter (f:Nat→Nat):Nat→Nat→Nat
 |0,a=>a
 |n+1,a=>f (iter f n a)
theorem uj {g:List (List Nat)} {f:Nat→Nat} {P:Nat→Prop} (hf:∀ a,P a→P (f a)∧f a∈g.getD a []) {a:Nat} (ha:P a):∀ n,P (iter f n a)
 |0=>ha
 |n+1=>(hf _ (uj hf ha n)).1
theorem Kp {g:List (List Nat)} {f:Nat→Nat} {P:Nat→Prop} (hf:∀ a,P a→P (f a)∧f a∈g.getD a []) {a:Nat} (ha:P a) (m:Nat):∀ n,Path g (iter f m a) (iter f (m+n) a)
 |0=> .refl _
 |n+1=>(Kp hf ha m n).trans (.step (hf _ (uj hf ha (m+n))).2 (.refl _))
theorem Nq {l:List Nat} (h:¬l.Nodup):∃ i j,∃ hj:j<l.length,∃ hi:i<j,l[i]=l[j]:=by
 induction l with
 |nil=>exact absurd List.nodup_nil h
 |cons a l ih=>
  by_cases hm:a∈l
  (·obtain⟨j,hj,e⟩:=List.getElem_of_mem hm;exact⟨0,j+1,by simpa using hj,by omega,by simpa using e.symm⟩);obtain⟨i,j,hj,hi,e⟩:=ih fun hl=>h (List.nodup_cons.2 ⟨hm,hl⟩);exact⟨i+1,j+1,by simpa using hj,by omega,by simpa using e⟩
theorem Nr {g:List (List Nat)} (hg:∀ i,(g.getD i []).Nodup) (hk:W9 g) (h:jF g=none):∃ i,i<g.length∧∃ k∈g.getD i [],Path g k i:=by
 obtain⟨x,I⟩:=Fh hg;unfold jF at h;split at h
 ·next hl=>
  (let P:Nat→Prop:=fun a=>a<g.length∧a∉oN g);have hs:∀ a,P a→∃ b,P b∧b∈g.getD a []:=fun a ⟨h1,h2⟩=>by
   have h3:¬cnt g (oN g) a=0:=fun h3=>by
    have:=(I.ready a).2 ⟨h1,h2,h3⟩;exact absurd this ai
   rw[td]at h3;obtain⟨b,hb⟩:=Classical.not_forall.1 h3;obtain⟨hb1,hb2⟩:=Classical.not_imp.1 hb;exact⟨b,⟨hk a b hb1,hb2⟩,hb1⟩
  obtain⟨a,ha⟩:∃ a,P a:=by
   refine Classical.byContradiction fun hn=>?_;have hall:∀ a,a<g.length→a∈oN g:=fun a h1=>Classical.byContradiction fun h2=>hn ⟨a,h1,h2⟩;have:=List.Nodup.length_le_of_subset (l₁:=aav g.length) (l₂:=oN g) List.nodup_range fun y hy=>hall y (List.mem_range.1 hy);rw[List.length_range]at this;omega
  obtain⟨f,hf⟩:=Classical.axiomOfChoice (r:=fun a b=>P a→P b∧b∈g.getD a []) fun a=>by
   by_cases h1:P a
   (·obtain⟨b,h2⟩:=hs a h1;exact⟨b,fun _=>h2⟩);exact⟨0,fun h=>absurd h h1⟩
  have hnd:¬((aav (g.length+1)).map fun n=>iter f n a).Nodup:=fun hn=>by
   have:=List.Nodup.length_le_of_subset (l₂:=aav g.length) hn fun y hy=>by
    obtain⟨n,_,rfl⟩:=aat.1 hy;exact List.mem_range.2 (uj hf ha n).1
   simp at this;omega
  obtain⟨i,j,hj,hi,e⟩:=Nq hnd;simp only[List.getElem_map,List.getElem_range]at e;have hP:=uj hf ha i;refine⟨iter f i a,hP.1,f (iter f i a),(hf _ hP).2,?_⟩;have:=Kp hf ha (i+1) (j - (i+1));rw[show i+1+(j - (i+1))=j by omega, ← e]at this;exact this
 cases h
def uw (g:List (List Nat)) (out:List Int) (step:Int) (i:Nat):Bool:=decide (out.getD i 0<0)&&(g.getD i []).any fun k=>out.getD k 0==step - 1
def Kq (g:List (List Nat)) (step:Int) (out:List Int) (i:Nat):List Int:=if uw g out step i then out.set i step else out
def rJ (g:List (List Nat)) (step:Int) (n:Nat) (out:List Int):List Int:=(aav n).foldl (Kq g step) out
def jR (g:List (List Nat)) (goal:Nat):Nat→List Int
 |0=>(aaw g.length (-1)).set goal 0
 |m+1=>rJ g ((m:Int)+1) g.length (jR g goal m)
def lH (g:List (List Nat)) (goal:Nat):List Int:=jR g goal (g.length - 1)
theorem U6 (g:List (List Nat)) (step:Int) (out:List Int) (i:Nat):(Kq g step out i).length=out.length:=by unfold Kq;split<;>simp
theorem zl (g:List (List Nat)) (step:Int) (n:Nat) (out:List Int):rJ g step (n+1) out=Kq g step (rJ g step n out) n:=by
 unfold rJ;rw[List.range_succ,List.foldl_append];rfl
theorem xJ (g:List (List Nat)) (step:Int) (out:List Int):∀ n,(rJ g step n out).length=out.length
 |0=>rfl
 |n+1=>by rw[zl,U6,xJ g step out n]
theorem uk (g:List (List Nat)) (goal:Nat):∀ m,(jR g goal m).length=g.length
 |0=>by simp[jR]
 |m+1=>by rw[jR,xJ,uk g goal m]
theorem OY {g:List (List Nat)} {step:Int} {out:List Int} (hs:0<step):∀ (n:Nat),n≤out.length→∀ j,(rJ g step n out).getD j 0=if j<n∧uw g out step j=true then step else out.getD j 0
 |0,_,j=>by rw[if_neg af];rfl
 |n+1,hn,j=>by
  have ih:=OY (g:=g) (out:=out) hs n af;have hran:uw g (rJ g step n out) step n=uw g out step n:=by
   unfold uw;have h1:(rJ g step n out).getD n 0=out.getD n 0:=(by rw[ih,if_neg af]);have h2:(fun k=>(rJ g step n out).getD k 0==step - 1)=fun k=>out.getD k 0==step - 1:=by
    funext k;rw[ih];split
    ·next h=>
     have h2:decide (out.getD k 0<0)=true:=by
      have:=h.2;unfold uw at this;rw[aag]at this;exact this.1
     have h3:out.getD k 0<0:=of_decide_eq_true h2;have e1:(step==step - 1)=false:=bG;have e2:(out.getD k 0==step - 1)=false:=bG;rw[e1,e2]
    rfl
   rw[h1,h2]
  rw[zl];unfold Kq;rw[hran];by_cases hr:uw g out step n=true
  ·rw[if_pos hr,gV (by rw[xJ];omega),ih];by_cases e:j=n
   (·subst e;rw[if_pos rfl,if_pos ⟨by omega,hr⟩]);rw[if_neg e];by_cases h1:j<n∧uw g out step j=true
   (·rw[if_pos h1,if_pos ⟨by omega,h1.2⟩]);rw[if_neg h1,if_neg (fun h=>h1 ⟨by omega,h.2⟩)]
  rw[if_neg hr,ih];by_cases h1:j<n∧uw g out step j=true
  (·rw[if_pos h1,if_pos ⟨by omega,h1.2⟩]);have h2:¬(j<n+1∧uw g out step j=true):=fun h=>by
   have:j≠n:=fun e=>hr (e▸h.2);exact h1 ⟨by omega,h.2⟩
  rw[if_neg h1,if_neg h2]
structure Kr (g:List (List Nat)) (goal m:Nat) (out:List Int):Prop where
 zero:out.getD goal 0=0
 only:∀ i,i<g.length→out.getD i 0=0→i=goal
 low:∀ i,i<g.length→-1≤out.getD i 0∧out.getD i 0≤m
 next:∀ i,i<g.length→0<out.getD i 0→∃ k∈g.getD i [],out.getD k 0=out.getD i 0 - 1
 back:∀ i,i<g.length→∀ k∈g.getD i [],0≤out.getD k 0→out.getD k 0<m→0≤out.getD i 0
theorem QL {g:List (List Nat)} {goal:Nat} (h:goal<g.length):Kr g goal 0 (jR g goal 0):=by
 have e:∀ i,i<g.length→(jR g goal 0).getD i 0=if i=goal then 0 else -1:=fun i hi=>by
  unfold jR;rw[gV aK];split
  (·rfl);rw[aam,List.getElem?_replicate,if_pos hi];rfl
 refine⟨by rw[e _ h,if_pos rfl],fun i hi h0=>?_,fun i hi=>?_,fun i hi h0=>?_,fun i hi k hk h1 h2=>?_⟩
 ·rw[e i hi]at h0;split at h0
  (·assumption);cases h0
 (·rw[e i hi];split<;>exact⟨by decide,by decide⟩)
 ·rw[e i hi]at h0;split at h0
  (·exact absurd h0 ak);exact absurd h0 ak
 exact absurd h1 (by intro h;have:(jR g goal 0).getD k 0<((0:Nat):Int):=h2;omega)
theorem U7 {g:List (List Nat)} (hk:W9 g) {goal m:Nat} (zK:goal<g.length) {out:List Int} (hl:out.length=g.length) (I:Kr g goal m out):Kr g goal (m+1) (rJ g ((m:Int)+1) g.length out):=by
 have e:=OY (g:=g) (step:=(m:Int)+1) (out:=out) af g.length af;have hneg:∀ i,uw g out ((m:Int)+1) i=true→out.getD i 0<0∧∃ k∈g.getD i [],out.getD k 0=m:=fun i h=>by
  unfold uw at h;rw[aag,List.any_eq_true]at h;obtain⟨k,h1,h2⟩:=h.2;exact⟨of_decide_eq_true h.1,k,h1,by have:=eq_of_beq h2;omega⟩
 have keep:∀ k,k<g.length→0≤out.getD k 0→(rJ g ((m:Int)+1) g.length out).getD k 0=out.getD k 0:=fun k h1 h2=>by
  rw[e,if_neg (fun h=>by have:=(hneg k h.2).1;omega)]
 refine⟨by rw[keep _ zK (by rw[I.zero];exact Int.le_refl _)];exact I.zero,fun i hi h0=>?_,fun i hi=>?_,fun i hi h0=>?_,fun i hi k hkm h1 h2=>?_⟩
 ·rw[e]at h0;split at h0
  (·omega);exact I.only i hi h0
 (·have:=I.low i hi;rw[e];split<;>constructor<;>omega)
 ·rw[e]at h0;rw[e];split at h0
  ·next h=>
   rw[if_pos h];obtain⟨k,h1,h2⟩:=(hneg i h.2).2;exact⟨k,h1,by rw[keep k (hk i k h1) af,h2];omega⟩
  next h=>
  rw[if_neg h];(obtain⟨k,h1,h2⟩:=I.next i hi h0);exact⟨k,h1,by rw[keep k (hk i k h1) af,h2]⟩
 have nO:=hk i k hkm;by_cases h0:0≤out.getD i 0
 (·rw[keep i hi h0];exact h0);rw[e]at h1 h2 ⊢;have hout:out.getD k 0=m:=by
  split at h1
  (·(next h=>rw[if_pos h]at h2;omega));next h=>
  rw[if_neg h]at h2;by_cases h3:out.getD k 0<m
  (·exact absurd (I.back i hi k hkm h1 h3) h0);omega
 have hr:uw g out ((m:Int)+1) i=true:=by
  unfold uw;rw[aag,List.any_eq_true];exact⟨decide_eq_true af,k,hkm,by rw[hout];exact beq_iff_eq.2 af⟩
 rw[if_pos ⟨hi,hr⟩];omega
theorem BH {g:List (List Nat)} (hk:W9 g) {goal:Nat} (h:goal<g.length):∀ m,Kr g goal m (jR g goal m)
 |0=>QL h
 |m+1=>U7 hk h (uk g goal m) (BH hk h m)
theorem FK {g:List (List Nat)} (hk:W9 g) {goal m:Nat} {out:List Int} (I:Kr g goal m out):∀ (v:Nat) (i:Nat),i<g.length→out.getD i 0=v→∀ u,u≤v→∃ k,k<g.length∧out.getD k 0=(u:Int)
 |v,i,hi,h,u,hu=>by
  by_cases e:u=v
  (·exact⟨i,hi,by rw[h,e]⟩);cases v with
  |zero=>omega
  |succ v=>
   (obtain⟨k,h1,h2⟩:=I.next i hi (by rw[h];omega));exact FK hk I v k (hk i k h1) (by rw[h2,h];omega) u af
theorem U8 {g:List (List Nat)} (hk:W9 g) {goal:Nat} (hg:goal<g.length) {k:Nat} (nO:k<g.length) (p:Path g k goal):0≤(lH g goal).getD k 0:=by
 have I:Kr g goal (g.length - 1) (lH g goal):=BH hk hg (g.length - 1);have close:∀ a,a<g.length→∀ b∈g.getD a [],0≤(lH g goal).getD b 0→0≤(lH g goal).getD a 0:=fun a ha b hb h=>by
  by_cases h2:(lH g goal).getD b 0<((g.length - 1:Nat):Int)
  (·exact I.back a ha b hb h h2);have hb2:=I.low b (hk a b hb);have e:(lH g goal).getD b 0=((g.length - 1:Nat):Int):=af;refine Classical.byContradiction fun hn=>?_;have hch:=FK hk I (g.length - 1) b (hk a b hb) e;have hsel:∀ u,∃ x,u<g.length→x<g.length∧(lH g goal).getD x 0=(u:Int):=fun u=>by
   by_cases hu:u<g.length
   (·obtain⟨x,h1,h2⟩:=hch u af;exact⟨x,fun _=>⟨h1,h2⟩⟩);exact⟨0,fun h=>absurd h hu⟩
  obtain⟨F,hF⟩:=Classical.axiomOfChoice hsel;have hnd:(a :: (aav g.length).map F).Nodup:=by
   refine List.nodup_cons.2 ⟨fun hm=>?_,?_⟩
   (·obtain⟨u,hu,e2⟩:=aat.1 hm;have:=(hF u (List.mem_range.1 hu)).2;rw[e2]at this;omega);refine List.pairwise_map.2 (List.Pairwise.imp_of_mem (fun {x y} hx hy hxy e2=>?_) (List.nodup_range (n:=g.length)));have h1:=(hF x (List.mem_range.1 hx)).2;have h2:=(hF y (List.mem_range.1 hy)).2;rw[e2,h2]at h1;omega
  have:=List.Nodup.length_le_of_subset (l₂:=aav g.length) hnd fun y hy=>by
   rcases aas.1 hy with rfl|hy
   (·exact List.mem_range.2 ha);obtain⟨u,hu,rfl⟩:=aat.1 hy;exact List.mem_range.2 (hF u (List.mem_range.1 hu)).1
  simp at this;omega
 induction p with
 |refl=>rw[I.zero];exact Int.le_refl _
 |step h1 _ ih=>exact close _ nO _ h1 (ih hg (hk _ _ h1) I close)
def nearB (d:List Int) (k:Nat):Option Nat→Bool
 |none=>true
 |some x=>decide (d.getD k 0<d.getD x 0)
def uJ (d:List Int) (nx:Option Nat) (k:Nat):Option Nat:=if 0≤d.getD k 0∧nearB d k nx=true then some k else nx
def jZ (d:List Int) (l:List Nat):Option Nat:=l.foldl (uJ d) none
def DL (d:List Int) (l:List Nat):Option Nat→Prop
 |none=>∀ k∈l,d.getD k 0<0
 |some x=>x∈l∧0≤d.getD x 0∧∀ k∈l,0≤d.getD k 0→d.getD x 0≤d.getD k 0
theorem QM {d:List Int} {l:List Nat} {nx:Option Nat} (h:DL d l nx) (k:Nat):DL d (l++[k]) (uJ d nx k):=by
 unfold uJ;cases nx with
 |none=>
  by_cases e:0≤d.getD k 0
  ·rw[if_pos ⟨e,rfl⟩];refine⟨by simp,e,fun j hj h0=>?_⟩;rcases aar.1 hj with hj|hj
   (·have:=h j hj;omega);rw[aau.1 hj];exact Int.le_refl _
  rw[if_neg (fun h=>e h.1)];intro j hj;rcases aar.1 hj with hj|hj
  (·exact h j hj);rw[aau.1 hj];omega
 |some x=>
  obtain⟨h1,h2,h3⟩:=h;by_cases e:0≤d.getD k 0∧d.getD k 0<d.getD x 0
  ·rw[if_pos ⟨e.1,decide_eq_true e.2⟩];refine⟨by simp,e.1,fun j hj h0=>?_⟩;rcases aar.1 hj with hj|hj
   (·have:=h3 j hj h0;omega);rw[aau.1 hj];exact Int.le_refl _
  rw[if_neg (fun h=>e ⟨h.1,of_decide_eq_true h.2⟩)];refine⟨List.mem_append_left _ h1,h2,fun j hj h0=>?_⟩;rcases aar.1 hj with hj|hj
  (·exact h3 j hj h0);rw[aau.1 hj]at h0 ⊢;omega
theorem Ht (d:List Int) (l:List Nat) (k:Nat):jZ d (l++[k])=uJ d (jZ d l) k:=by unfold jZ;rw[List.foldl_append];rfl
theorem xK (d:List Int) (l:List Nat):DL d l (jZ d l):=by
 suffices h:∀ (l acc:List Nat) (nx:Option Nat),DL d acc nx→DL d (acc++l) (l.foldl (uJ d) nx) by
  have:=h l [] none (fun k hk=>by cases hk)
  rwa [List.nil_append]at this
 intro l;induction l with
 |nil=>intro acc nx h;rw[List.append_nil];exact h
 |cons k l ih=>
  intro acc nx h;have:=ih (acc++[k]) _ (QM h k);rw[List.append_assoc]at this;exact this
theorem QN {g:List (List Nat)} (hk:W9 g) {goal:Nat} (hg:goal<g.length) {a:Nat} (ha:a<g.length) (h:0<(lH g goal).getD a 0):∃ x,jZ (lH g goal) (g.getD a [])=some x∧x<g.length∧0≤(lH g goal).getD x 0∧(lH g goal).getD x 0<(lH g goal).getD a 0:=by
 have I:Kr g goal (g.length - 1) (lH g goal):=BH hk hg (g.length - 1);(obtain⟨k,h1,h2⟩:=I.next a ha h);have hp:=xK (lH g goal) (g.getD a []);cases e:jZ (lH g goal) (g.getD a [])with
 |none=>
  rw[e]at hp;have:=hp k h1;omega
 |some x=>
  rw[e]at hp;obtain⟨p1,p2,p3⟩:=hp;have:=p3 k h1 af;exact⟨x,rfl,hk a x p1,p2,by omega⟩
theorem QO {g:List (List Nat)} (hn:∀ i,(g.getD i []).Nodup) (hk:W9 g) (h:jF g=none):∃ i,i<g.length∧∃ x,jZ (lH g i) (g.getD i [])=some x:=by
 obtain⟨i,hi,k,h1,h2⟩:=Nr hn hk h;refine⟨i,hi,?_⟩;have h3:=U8 hk hi (hk i k h1) h2;have hp:=xK (lH g i) (g.getD i []);cases e:jZ (lH g i) (g.getD i [])with
 |none=>
  rw[e]at hp;have:=hp k h1;omega
 |some x=>exact⟨x,rfl⟩
end Kn
namespace Go.Proofs.YtfppbjfnllhgcaaGreat
section
open Go Go.RowKit Bg Go.Proofs Sh Kb Kn
theorem Hu (p:Nat→Bool) (g:Nat) (lb:Array Value) (eg:∀ args w,(callFunc g args).run prog w= .ok (.enter g args) w) (A:Option Addr) (c:Nat) (xs:List Nat) (w:World) (hp:∀ x∈xs,∀ W,Below w w W→Calls prog g (#[bU (x:Int)]++lb) W fun e w'=>e= .returned (.bool (p x))∧∃ n,w'=W.drewN n) (hbig:xs.length≤maxLen) (hs:Sq jV w Any A xs):Calls prog 141 #[bW A xs c,.func (.func g) #[] lb] w fun e w'=>e= .returned (.bool (xs.any p))∧∃ n,w'=w.drewN n:=by
 cases xs with
 |nil=>exact(AnyE.slices_ContainsFunc_empty FJ A c _ w).mono fun e w' ⟨he,hw⟩=>⟨he,0,hw⟩
 |cons a l=>
  obtain⟨css,h1,h2,h3⟩:=hs;(have hne:css≠[]:=fun e=>by rw[e]at h1;simp at h1);obtain⟨b,off,rfl,_,hlt,hc⟩:=h2 hne;have hgd:∀ i,(a :: l).getD i a∈a :: l:=fun i=>by
   by_cases hi:i<(a :: l).length
   (·rw[EG hi];exact aan hi);rw[Yc af];simp
  have hm:(aav (a :: l).length).map (fun i=>p ((a :: l).getD i a))=(a :: l).map p:=by
   apply List.ext_getElem
   (·simp);intro i h1 h2;have hi:i<(a :: l).length:=aF;simp only[List.getElem_map,List.getElem_range,EG hi]
  have han:(aav (a :: l).length).any (fun i=>p ((a :: l).getD i a))=(a :: l).any p:=by
   (have e:∀ {β:Type} (q:β→Bool) (l:List β),l.any q=(l.map q).any id:=fun q l=>by rw[List.any_map];rfl);rw[e,e p,hm]
  have h:=AnyE.slices_ContainsFunc FJ (fun i=>bU (((a :: l).getD i a:Nat):Int)) (fun i=>p ((a :: l).getD i a)) g lb eg b off (a :: l).length c (aav (a :: l).length) w (fun W i hb=>hp _ (hgd i) W hb) ai aR (fun j hj=>?_)
  (·rw[show(aav (a :: l).length).take (a :: l).length=aav (a :: l).length from aax ai,han]at h;exact h);have hj':j<(a :: l).length:=(by simpa using hj);have La:j<css.length:=af;have h9:=h3 j _ _ (List.getElem?_eq_getElem La) (List.getElem?_eq_getElem hj');have e:css[j]=[bU (((a :: l)[j]:Nat):Int)]:=h9;have h8:=hc j _ (List.getElem?_eq_getElem La) 0 (bU (((a :: l)[j]:Nat):Int)) (by rw[e];rfl);have e3:(aav (a :: l).length)[j]! =j:=(by rw[getElem!_pos (aav (a :: l).length) j hj];simp);rw[e3,EG hj'];simpa [jV,mg]using h8
theorem Kt {l:List Int} {i:Nat} (h:i<l.length):(l.map iv)[i]? =some (bU (l.getD i 0)):=by
 rw[List.getElem?_map,List.getElem?_eq_getElem h,aam,List.getElem?_eq_getElem h];rfl
theorem Ku:∀ args w,(callFunc 142 args).run prog w= .ok (.enter 142 args) w:=enters_of func142 ah rfl
theorem XX (bo bs bt n:Nat) (out:List Int) (step:Int) (x:Nat) (hx:x<n) (hn:n≤1000000) (h1:1≤step) (h2:step≤1000000) (hl:out.length=n) (W:World) (hc0:b_ W bo 0 (bW (bY bs 0) n n)) (hc1:b_ W bs x (bU (out.getD x 0))) (hc2:b_ W bt 0 (bU step)):Calls prog 142 (#[bU (x:Int)]++#[.pointer (bY bo 0),.pointer (bY bt 0)]) W fun e w'=>e= .returned (.bool (out.getD x 0==step - 1))∧∃ n,w'=W.drewN n:=by
 show Calls prog 142 #[bU (x:Int),.pointer (bY bo 0),.pointer (bY bt 0)] W _;generalize out.getD x 0=y at hc1 ⊢;generalize hP:(fun(e:Ending) (w':World)=>e= .returned (.bool (y==step - 1))∧∃ n,w'=W.drewN n)=P;have HP:=aa (show ∀ e w',(e= .returned (.bool (y==step - 1))∧∃ n,w'=W.drewN n)→P e w' from fun e w' h=>hP▸h);clear hP;go_enter func142,ntmps142;go_wp2_with fail;go_quiet (fail);go_wp2;exact HP.o (.returned (.bool (y==step - 1))) _ ⟨rfl,nq,rfl⟩
def cellAt (w:World):Value→Int
 | .pointer (some a)=>intOf ((w.cell? a).getD undef)
 |_=>0
def FarP (g:List (List Nat)) (goal:Nat) (w:World) (e:Ending) (w':World):Prop:=∃ bs,e= .returned (bW (bY bs 0) g g)∧w.heap.size≤bs∧cN w' bs 3 ((lH g goal).map iv)∧Below w w w'
theorem XY (g:List (List Nat)) (goal:Nat) (hgo:goal<g.length) (zK:g.length≤1000000) (hrow:∀ i,(g.getD i []).length≤1000000) (hok:W9 g) (A:Option Addr) (c:Nat) (w:World) (hs:Sq Fm w Any A g):Calls prog 85 #[bW A g c,bU (goal:Int)] w (FarP g goal w):=by
 generalize hP:FarP g goal w=P;have HP:=aa (show ∀ e w',FarP g goal w e w'→P e w' from fun e w' h=>hP▸h);clear hP;have rV:=aa hrow;have PM:=aa hok;have HS:=aa hs;clear hrow hok hs;obtain⟨n,hn⟩:∃ n,n=g.length:=⟨_,rfl⟩;have HN:=aa hn;rw[← hn]at hgo zK ⊢;clear hn;have hmk:∀ W:World,(Instr.makeSlice 38 (bU (n:Int)) (bU (n:Int))).run prog W= .ok (bW (bY W 0) n n) (W.alloc (.cells (aad n (bU 0)) 3)):=fun W=>by
  have:=run_make_row' (P:=prog) 38 3 (bU 0) 8 underlying38 ah rfl .i64 .i64 n af af W;rw[show madeCells #[bU 0] n=aad n (bU 0)from by rw[← Array.toList_inj,toList_madeCells_one];simp]at this;exact this
 go_enter func85,ntmps85;go_upto_region 2 with fail;obtain⟨bs,yK⟩:∃ b,b=w.heap.size:=⟨_,rfl⟩;have DX:=aa yK;rw[← yK];have KS:=aa (show cN ((w.alloc (.cells (aad n (bU 0)) 3)).alloc (.cells #[bW (bY bs 0) n n] 38)) bs 3 (aaw n (bU 0)) by
  have h:cN (w.alloc (.cells (aad n (bU 0)) 3)) w 3 (aaw n (bU 0)):=(heap_alloc_new w _).trans ai;rw[yK];exact h.alloc _)
 have KO:=aa (show cN ((w.alloc (.cells (aad n (bU 0)) 3)).alloc (.cells #[bW (bY bs 0) n n] 38)) (bs+1) 38 [bW (bY bs 0) n n] by
  have h:=heap_alloc_new (w.alloc (.cells (aad n (bU 0)) 3)) (.cells #[bW (bY bs 0) n n] 38);rw[aaI, ← yK]at h;exact h)
 have HB:=aa (((aaf w w).alloc aac (.cells (aad n (bU 0)) 3)).alloc aJ (.cells #[bW (bY bs 0) n n] 38));generalize ((w.alloc (.cells (aad n (bU 0)) 3)).alloc (.cells #[bW (bY bs 0) n n] 38))=w1 at KS KO HB ⊢;clear hmk yK;have fh:=aa (show bs+2≤w1.heap.size by have:=KO.o.lt;omega);have xo:=KO.o.cell;go_wp2;go_loopw [15] (fun v wr=>∃ k:Nat,k≤n∧v=bU (k:Int)∧Hid (cN wr bs 3 ((aaw k (-1)++aaw (n - k) 0).map iv))∧Hid (cN wr (bs+1) 38 [bW (bY bs 0) n n])∧Hid (Below bs w wr)) (fun v _=>n - (intOf v).toNat);(case atStart=>exact⟨0,aaG _,rfl,by rw[List.replicate_zero,List.nil_append,Nat.sub_zero,List.map_replicate];exact KS,KO,by rw[DX.o];exact HB⟩);clear KS KO HB fh xo;obtain⟨k,hk,rfl,KS,KO,HB⟩:=hrel;have xo:=KO.o.cell;by_cases hlt:k<n;case pos=>
  have ys:=KS.o.cell;have fs:=KS.o.frozen;(have yk:b_ wr bs k (bU 0):=by rw[ys,List.getElem?_map,List.getElem?_append_right ai,List.length_replicate,Nat.sub_self,List.getElem?_replicate,if_pos af];rfl);clear ys;go_wp2_with fail;have nj:((aaw k (-1)++aaw (n - k) 0).map iv).set k (bU (-1))=(aaw (k+1) (-1)++aaw (n - (k+1)) 0).map iv:=by
   have e:(aaw k (-1:Int)++aaw (n - k) 0).set k (-1)=aaw (k+1) (-1)++aaw (n - (k+1)) 0:=by
    rw[List.set_append_right _ _ ai,List.length_replicate,Nat.sub_self,show n - k=(n - (k+1))+1 by omega,List.replicate_succ,List.set_cons_zero,List.replicate_succ',List.append_assoc];rfl
   rw[← e,List.map_set];rfl
  have Ry:=aa (show cN (wr.setCell (bY bs k) (bU (-1))) bs 3 ((aaw (k+1) (-1)++aaw (n - (k+1)) 0).map iv) by rw[← nj];exact KS.o.eB k _);have hg:wr.grownBy (wr.setCell (bY bs k) (bU (-1))) (some bs):=fJ (World.grownBy.refl wr (some bs)) k _;have QS:=aa (xI hg (fun e=>by injection e with e;omega) KO.o);have dG:=aa (HB.o.grown hg (by have:=HB.o.size;have:=DX.o;omega) (fun j e=>by cases e;exact aaB _));clear nj hg KS KO HB yk fs xo;go_roundw;exact⟨k+1,by omega,rfl,Ry,QS,dG⟩;simp[intOf];omega
 case neg=>
  obtain rfl:n=k:=by omega
  clear hlt hk
  rw[Nat.sub_self,List.replicate_zero,List.append_nil,List.map_replicate]at KS
  have ys:=KS.o.cell
  have fs:=KS.o.frozen
  have yk:b_ wr bs goal (bU (-1)):=by rw[ys,List.getElem?_replicate,if_pos hgo];rfl
  clear ys
  go_upto_region 8 with fail
  have Ry:=aa (show cN (wr.setCell (bY bs goal) (bU 0)) bs 3 ((jR g goal 0).map iv) by
   have h:=KS.o.eB goal (bU 0);rw[show(aaw n (iv (-1))).set goal (bU 0)=(jR g goal 0).map iv by
    unfold jR;rw[← HN.o,List.map_set,List.map_replicate];rfl]at h
   exact h)
  have hg:wr.grownBy (wr.setCell (bY bs goal) (bU 0)) (some bs):=fJ (World.grownBy.refl wr (some bs)) goal _
  have QS:=aa (xI hg (fun e=>by injection e with e;omega) KO.o)
  have dG:=aa (HB.o.grown hg (by have:=HB.o.size;have:=DX.o;omega) (fun j e=>by cases e;exact aaB _))
  generalize wr.setCell (bY bs goal) (bU 0)=w2 at Ry QS dG ⊢
  clear hg KS KO HB yk fs xo
  have fh:=aa (show bs+2≤w2.heap.size by have:=QS.o.lt;omega)
  go_wp2_with fail
  have KT:=aa (show cN (w2.alloc (.cells #[bU 1] 3)) w2 3 [bU 1]from heap_alloc_new w2 _)
  replace Ry:=aa (Ry.o.alloc (.cells #[bU 1] 3))
  replace QS:=aa (QS.o.alloc (.cells #[bU 1] 3))
  replace dG:=aa (dG.o.alloc (by have:=fh.o;omega) (.cells #[bU 1] 3))
  have Ni:=aa (show bs+2≤w2.heap.size from fh.o)
  generalize w2.alloc (.cells #[bU 1] 3)=w3 at KT Ry QS dG ⊢
  generalize w2.heap.size=bt0 at KT Ni ⊢
  clear fh w2
  go_loopw [7] (fun v wr=>∃ m bt:Nat,m+1≤n∧v= .pointer (bY bt 0)∧Hid (bs+2≤bt)∧Hid (cN wr bt 3 [bU ((m:Int)+1)])∧Hid (cN wr bs 3 ((jR g goal m).map iv))∧Hid (cN wr (bs+1) 38 [bW (bY bs 0) n n])∧Hid (Below bs w wr)) (fun v wr=>n - (cellAt wr v).toNat)
  case atStart=>exact⟨0,bt0,by omega,rfl,Ni,KT,Ry,QS,dG⟩
  case round=>
   clear KT Ry QS dG Ni;obtain⟨m,bt,hm,rfl,Ni,KT,KS,KO,HB⟩:=hrel;have xt:=KT.o.cell;by_cases hlt:m+1<n;case pos=>
    rename World=>wo
    have xo:=KO.o.cell
    have HTw:=aa (show(cellAt wo (.pointer (bY bt 0))).toNat=m+1 by
     have:cellAt wo (.pointer (bY bt 0))=(m:Int)+1:=by
      show intOf ((wo.cell? (bY bt 0)).getD undef)=_;rw[xt];rfl
     rw[this];omega)
    go_wp2_with fail
    rw[show decide ((m:Int)+1<(n:Int))=true from decide_eq_true af]
    go_loopw [33] (fun v wr=>∃ i:Nat,i≤n∧v=bU (i:Int)∧Hid (cN wr bs 3 ((rJ g ((m:Int)+1) i (jR g goal m)).map iv))∧Hid (cN wr bt 3 [bU ((m:Int)+1)])∧Hid (cN wr (bs+1) 38 [bW (bY bs 0) n n])∧Hid (Below bs w wr)) (fun v _=>n - (intOf v).toNat)
    case atStart=>exact⟨0,aaG _,rfl,KS,KT,KO,HB⟩
    case round=>
     clear KS KT KO HB xt xo;obtain⟨i,hi,rfl,KS,KT,KO,HB⟩:=hrel;have cG:=aa (show Below w w wr by have:=HB.o;rwa [DX.o]at this);have xt:=KT.o.cell;have xo:=KO.o.cell;have hl2:(rJ g ((m:Int)+1) i (jR g goal m)).length=n:=(by rw[xJ,uk,HN.o]);have XM:=aa (zl g ((m:Int)+1) i (jR g goal m));by_cases hil:i<n;case pos=>
      generalize rJ g ((m:Int)+1) i (jR g goal m)=out at KS hl2 XM;(have YL:i<g.length:=by have:=HN.o;omega);obtain⟨b,o,cs,hA,_,_,⟨Al,cl,hcs,rZ⟩,cM⟩:=(HS.o.bZ cG.o).get YL;subst hA hcs;(have c0:b_ wr b (o+i) (bW Al g[i].length cl):=by have:=cM 0 _ rfl;rwa [show o+i*Fm.k+0=o+i by show o+i*1+0=_;omega]at this);(have hgd:g.getD i []=g[i]:=by rw[aam,List.getElem?_eq_getElem YL];rfl);have YV:Hid (uw g out ((m:Int)+1) i=(decide (out.getD i 0<0)&&g[i].any fun k=>out.getD k 0==(m:Int)+1 - 1)):=aa (by unfold uw;rw[hgd]);have hrl:=rV.o i;have YW:=PM.o i;rw[hgd]at hrl YW;have Yx:=aa (fun W (h:Below wr wr W) x (hx:x∈g[i])=>XX (bs+1) bs bt n out ((m:Int)+1) x (by rw[HN.o];exact YW x hx) zK af af hl2 W ((h.cell (p:=bY (bs+1) 0) KO.o.lt).trans (xo 0)) ((h.cell (p:=bY bs x) KS.o.lt).trans ((KS.o.cell x).trans (Kt (by rw[hl2,HN.o];exact YW x hx)))) ((h.cell (p:=bY bt 0) KT.o.lt).trans (xt 0)));have HCt:=aa (Hu (fun k=>out.getD k 0==(m:Int)+1 - 1) 142 #[.pointer (bY (bs+1) 0),.pointer (bY bt 0)] Ku Al cl g[i] wr (fun x hx W h=>Yx.o W h x hx) aH rZ);clear cM rZ hgd YW Yx;have yk:b_ wr bs i (bU (out.getD i 0)):=(KS.o.cell i).trans (Kt af);have fs:=KS.o.frozen;generalize g[i]=row at c0 YV HCt hrl;generalize row.any (fun k=>out.getD k 0==(m:Int)+1 - 1)=bb at HCt YV;generalize out.getD i 0=oi at yk YV;by_cases hneg:oi<0;(case neg=>have HE:=aa (show rJ g ((m:Int)+1) (i+1) (jR g goal m)=out by rw[XM.o];unfold Kq;rw[YV.o,decide_eq_false hneg];rfl);go_wp2_with fail;rw[← HE.o]at KS;go_roundw;exact⟨i+1,by omega,rfl,KS,KT,KO,HB⟩;simp[intOf];omega);cases bb;(case false=>have HE:=aa (show rJ g ((m:Int)+1) (i+1) (jR g goal m)=out by rw[XM.o];unfold Kq;rw[YV.o,Bool.and_false];rfl);go_wp2_with (go_at_call 141;refine HCt.o.mono ?_;rintro e w5 ⟨rfl,nd,rfl⟩);rw[← HE.o]at KS;go_roundw;exact⟨i+1,by omega,rfl,aa (KS.o.drewN nd),aa (KT.o.drewN nd),aa (KO.o.drewN nd),aa (below_drewN HB.o nd)⟩;simp[intOf];omega);case true=>
       have HE:=aa (show rJ g ((m:Int)+1) (i+1) (jR g goal m)=out.set i ((m:Int)+1) by rw[XM.o];unfold Kq;rw[YV.o,decide_eq_true hneg];rfl)
       go_upto_region 15 with(go_at_call 141;refine HCt.o.mono ?_;rintro e w5 ⟨rfl,nd,rfl⟩)
       replace KS:=aa (KS.o.drewN nd)
       replace KT:=aa (KT.o.drewN nd)
       replace KO:=aa (KO.o.drewN nd)
       replace HB:=aa (below_drewN HB.o nd)
       clear HCt c0 yk fs xt xo cG
       generalize wr.drewN nd=w5 at KS KT KO HB ⊢
       have xt:=KT.o.cell
       have xo:=KO.o.cell
       have fs:=KS.o.frozen
       have yk:b_ w5 bs i (bU (out.getD i 0)):=(KS.o.cell i).trans (Kt af)
       go_wp2_with fail
       have nj:(out.map iv).set i (bU ((m:Int)+1))=(out.set i ((m:Int)+1)).map iv:=by rw[List.map_set];rfl
       have Ry:=aa (show cN (w5.setCell (bY bs i) (bU ((m:Int)+1))) bs 3 ((rJ g ((m:Int)+1) (i+1) (jR g goal m)).map iv) by rw[HE.o, ← nj];exact KS.o.eB i _)
       have hg:w5.grownBy (w5.setCell (bY bs i) (bU ((m:Int)+1))) (some bs):=fJ (World.grownBy.refl w5 (some bs)) i _
       have QS:=aa (xI hg (fun e=>by injection e with e;omega) KO.o)
       have KT2:=aa (xI hg (fun e=>by injection e with e;have:=Ni.o;omega) KT.o)
       have dG:=aa (HB.o.grown hg (by have:=HB.o.size;have:=DX.o;omega) (fun j e=>by cases e;exact aaB _))
       clear nj hg KS KO KT HB yk fs xo xt
       go_roundw
       case rel=>exact⟨i+1,by omega,rfl,Ry,KT2,QS,dG⟩
       case measure=>simp[intOf];omega
     (obtain rfl:n=i:=by omega);have HE:=aa (show rJ g ((m:Int)+1) n (jR g goal m)=jR g goal (m+1) by rw[HN.o,jR]);rw[HE.o]at KS;clear HE XM hl2 hi hil;have ht:(cellAt wo (.pointer (bY bt 0))).toNat=m+1:=HTw.o;go_upto_region 18 with fail;go_wp2_with fail;have KT2:=aa (show cN (wr.alloc (.cells #[bU ((m:Int)+1+1)] 3)) wr 3 [bU ((m:Int)+1+1)]from heap_alloc_new wr _);have Ry:=aa (KS.o.alloc (.cells #[bU ((m:Int)+1+1)] 3));have QS:=aa (KO.o.alloc (.cells #[bU ((m:Int)+1+1)] 3));have dG:=aa (HB.o.alloc (by have:=DX.o;have:=HB.o.size;omega) (.cells #[bU ((m:Int)+1+1)] 3));refine⟨⟨m+1,_,by omega,rfl,aa (by have:=KO.o.lt;omega),KT2,Ry,QS,dG⟩,?_⟩;rw[ht];have:cellAt (wr.alloc (.cells #[bU ((m:Int)+1+1)] 3)) (.pointer (bY wr 0))=(m:Int)+1+1:=by
      show intOf (((wr.alloc (.cells #[bU ((m:Int)+1+1)] 3)).cell? (bY wr 0)).getD undef)=_;rw[KT2.o.cell];rfl
     rw[this];omega
   (obtain rfl:n=m+1:=by omega);have xo:=KO.o.cell;go_wp2;exact HP.o (.returned (bW (bY bs 0) (m+1) (m+1))) _ ⟨bs,by rw[HN.o],by have:=DX.o;omega,by unfold lH;rw[← HN.o];exact KS.o,by rw[DX.o]at HB;exact HB.o⟩
end
section
open Go Go.RowKit Bg Go.Proofs Sh Kb Kn Go.Maps Hp
def nxI:Option Nat→Int
 |none=>-1
 |some x=>(x:Int)
def Hv (n:Nat) (w:World) (e:Ending) (w':World):Prop:=∃ b c m i,e= .returned (bW (bY b 0) m c)∧0<m∧i<n∧b_ w' b 0 (bU ((i:Nat):Int))∧Below w w w'
def Kv (n:Nat) (v:Value) (w:World):Prop:=v=bW none 0 0∨∃ b c m i,v=bW (bY b 0) m c∧0<m∧m≤n+1∧i<n∧b_ w b 0 (bU ((i:Nat):Int))
theorem Kv.bZ {n:Nat} {v:Value} {w w':World} (h:Kv n v w) (hb:Below w w w'):Kv n v w':=by
 rcases h with h|⟨b,c,m,i,h1,h2,h3,h4,h5⟩
 (·exact .inl h);exact .inr ⟨b,c,m,i,h1,h2,h3,h4,(hb.cell (p:=bY b 0) (World.block_lt_of_cell? w _ h5)).trans h5⟩
def lenOf:Value→Nat
 | .slice _ m _=>m
 |_=>0
def LstV (g:List (List Nat)) (i B:Nat) (v:Value) (a:Nat) (w:World):Prop:=∃ b c l,v= .slice (some ⟨b,0,none⟩) l.length c∧w.ownsRow B 3 1 v l.length (ints l)∧l[0]? =some ((i:Nat):Int)∧l.length≤g.length+1∧(a=i∧l.length=1∨0<(lH g i).getD a 0∧(l.length:Int)+(lH g i).getD a 0≤g.length+1)
theorem QT (a:j6) (s:cK) (g:List (List Nat)) (hg:jU s=some g) (ho:jF g=none) (w:World) (hI:eo w Any a s) (hZ:gj s):Calls prog 41 #[.agg (dU a s).toArray] w (Hv g.length w):=by
 generalize hP:Hv g.length w=P;have HP:=aa (show ∀ e w',Hv g.length w e w'→P e w' from fun e w' h=>hP▸h);clear hP;have vr:=aa (fun W (h:Below w w W)=>Fo a s W (hI.bZ h) hZ);rw[hg]at vr;obtain⟨zK,hgc,hrow,hok⟩:=pQ hZ hg;clear hgc;have rV:=aa hrow;have PM:=aa hok;have YX:=aa (QO (fun i=>(hrow i).1) hok ho);clear hg ho hI hZ hrow hok;obtain⟨A1,q1,A2,q2,A3,q3,A4,q4,A5,q5,A6,q6,A7,q7,A8,q8⟩:=a;simp only[dU]at vr ⊢;go_enter func41,ntmps41;go_upto_region 1 with fail;have K0:=aa (show cN (w.alloc (.cells (g_ s A1 A2 A3 A4 A5 A6 A7 A8 q1 q2 q3 q4 q5 q6 q7 q8) 31)) w 31 (g_ s A1 A2 A3 A4 A5 A6 A7 A8 q1 q2 q3 q4 q5 q6 q7 q8)from heap_alloc_new w _);have HB:=aa ((aaf w w).alloc aac (.cells (g_ s A1 A2 A3 A4 A5 A6 A7 A8 q1 q2 q3 q4 q5 q6 q7 q8) 31));generalize w.alloc (.cells (g_ s A1 A2 A3 A4 A5 A6 A7 A8 q1 q2 q3 q4 q5 q6 q7 q8) 31)=w1 at K0 HB ⊢;have x0:=K0.o.cell;have HG1:=aa (vr.o w1 HB.o);clear vr;go_wp2_with fail;refine HG1.o.mono ?_;rintro e w2 ⟨h|⟨g',A,c,hs,rfl,hq⟩,hb⟩
 (·exact absurd h.1 ai);injection hs with hs;subst hs;have HQ:=aa (hq.mono (S':=Any) fun _ _ _=>trivial);have dG:=aa (HB.o.trans (hb.mono HB.o.size));clear hq hb HB HG1 x0 K0;obtain⟨n,hn⟩:∃ n,n=g.length:=⟨_,rfl⟩;have HN:=aa hn;rw[← hn]at zK ⊢;clear hn;go_wp2;go_loopw [5,20] (fun v s20 wr=>∃ k:Nat,k≤n∧s20=bU (k:Int)∧Hid (Kv n v wr)∧Hid (∀ j,j<k→∀ x,jZ (lH g j) (g.getD j [])=some x→v≠ .slice none 0 0)∧Hid (Below w2 w2 wr)) (fun _ v _=>n - (intOf v).toNat);(case atStart=>exact⟨0,aaG _,rfl,aa (.inl rfl),aa (fun j h=>by omega),aa (aaf _ _)⟩);case round=>
  obtain⟨k,hk,rfl,Ns,Tg,HB⟩:=hrel
  rename World=>wo
  by_cases hkn:k<n
  case pos=>
   have HF:=aa (XY g k aC aC (fun i=>by have:=(rV.o i).2;omega) PM.o A c wo (HQ.o.bZ HB.o));rw[← HN.o]at HF;have HI:=aa (show Kr g k (g.length - 1) (lH g k)from BH PM.o aC (g.length - 1));have U9:=aa (fun a1 (h:a1<g.length) h2=>QN PM.o (goal:=k) aC h h2);have Vy:(lH g k).length=n:=(by unfold lH;rw[uk,HN.o]);go_upto_region 7 with(go_at_call 85;refine HF.o.mono ?_;rintro e w3 ⟨bd,rfl,hbd,KD,hb3⟩);rw[← HN.o];obtain⟨d,hd⟩:∃ d,d=lH g k:=⟨_,rfl⟩;have HD:=aa hd;rw[← hd]at KD HI U9 Vy;clear hd HF;have eF:=aa (HB.o.trans (hb3.mono HB.o.size));have HBv3:=aa (Ns.o.bZ hb3);clear Ns hb3;go_upto_region 9 with fail;have hown:=World.ownsRow_lit (base:=w3) (size:=1) (e:=3) w3 #[bU (k:Int)] 1 aac ak rfl;have HKD:=aa (cN.alloc KD (.cells #[bU (k:Int)] 3));have gC:=aa (eF.o.alloc eF.o.size (.cells #[bU (k:Int)] 3));have Kw:=aa (fun W (h:Below w3 (w3.alloc (.cells #[bU (k:Int)] 3)) W)=>HBv3.o.bZ ((cS (.cells #[bU (k:Int)] 3)).trans h));have hbd3:bd<w3.heap.size:=cN.lt KD;have HL:=aa (show LstV g k w3 (.slice (some ⟨w3,0,none⟩) 1 1) k (w3.alloc (.cells #[bU (k:Int)] 3))from⟨_,1,[(k:Int)],rfl,hown,rfl,by simp,.inl ⟨rfl,rfl⟩⟩);have XZ:=aa (show w3.heap.size+1≤(w3.alloc (.cells #[bU (k:Int)] 3)).heap.size by rw[aaI];omega);have HLo:=aa (show w2.heap.size≤w3.heap.size from eF.o.size);generalize w3.alloc (.cells #[bU (k:Int)] 3)=w4 at HKD gC Kw HL XZ ⊢;generalize w3.heap.size=gB at Kw HL XZ hbd3 HLo ⊢;clear hown KD eF HBv3 w3;go_wp2;go_loopw [8,9] (fun v s9 wr=>∃ a1:Nat,a1<n∧s9=bU (a1:Int)∧Hid (LstV g k gB v a1 wr)∧Hid (Below gB w4 wr)) (fun v _ _=>n+2 - lenOf v);(case atStart=>exact⟨k,hkn,rfl,HL,aa ((aaf w4 w4).mono (by have:=XZ.o;omega))⟩);case round=>
    clear HL
    obtain⟨a1,ha1,rfl,HL,sP⟩:=hrel
    rename World=>wi
    have o6:=aa (show Below w2 w2 wi from gC.o.trans (sP.o.mono HLo.o))
    have HKi:=aa (HKD.o.bZ sP.o hbd3)
    have hag:a1<g.length:=by have:=HN.o;omega
    obtain⟨b,o,cs,hA,_,_,⟨Al,cl,hcs,rZ⟩,cM⟩:=(HQ.o.bZ o6.o).get hag
    subst hA hcs
    have c0:b_ wi b (o+a1) (.slice Al g[a1].length cl):=by have:=cM 0 _ rfl;rwa [show o+a1*Fm.k+0=o+a1 by show o+a1*1+0=_;omega]at this
    have hgd:g.getD a1 []=g[a1]:=by rw[aam,List.getElem?_eq_getElem hag];rfl
    have hrl:=(rV.o a1).2
    have YW:=PM.o a1
    have U_:=U9.o a1 hag
    rw[hgd]at hrl YW U_
    have HKo:=aa YW
    have HNe:=aa U_
    have lI:=aa rZ
    have HGd:=aa hgd
    generalize g[a1]=row at c0 HKo HNe lI HGd hrl
    obtain⟨nr,hnr⟩:∃ m,m=row.length:=⟨_,rfl⟩
    have HNr:=aa hnr
    rw[← hnr]at c0 hrl
    clear cM rZ hgd YW U_ hnr
    obtain⟨lb,lc,l,hlv,hown,hl0,F7,hla⟩:=HL.o
    subst hlv
    clear HL
    have PN:=aa hown
    have Dm:=aa (And.intro hl0 (And.intro F7 hla))
    have hlp:0<l.length:=by cases l with|nil=>simp at hl0|cons=>simp
    obtain⟨ml,hml⟩:∃ m,m=l.length:=⟨_,rfl⟩
    have Ii:=aa hml
    rw[← hml]at F7 hlp
    have hmn:ml≤n+1:=by have:=HN.o;omega
    rw[← hml]
    clear hown hl0 F7 hla hml
    go_wp2_with fail
    go_loopw [10,34] (fun v s34 wr=>∃ j:Nat,j≤nr∧v=bU (nxI (jZ d (row.take j)))∧s34=bU (j:Int)∧Hid (Below wi wi wr)) (fun _ v _=>nr - (intOf v).toNat)
    case atStart=>exact⟨0,aaG _,rfl,rfl,aa (aaf _ _)⟩
    case round=>
     clear c0;obtain⟨j,hj,rfl,rfl,Bi⟩:=hrel;by_cases hjn:j<nr;case pos=>
      (have Uh:j<row.length:=by have:=HNr.o;omega);obtain⟨rb,ro,cs,hA,_,_,hcs,cM⟩:=(lI.o.bZ Bi.o).get Uh;subst hA;have hcs:cs=[bU ((row[j]:Nat):Int)]:=hcs;subst hcs;(have c1:b_ wr rb (ro+j) (bU ((row[j]:Nat):Int)):=by have:=cM 0 _ rfl;rwa [show ro+j*jV.k+0=ro+j by show ro+j*1+0=_;omega]at this);(have hrj:row[j]<n:=by have:=HKo.o _ (aan Uh);have:=HN.o;omega);have yO:=aa (show jZ d (row.take (j+1))=uJ d (jZ d (row.take j)) row[j] by rw[aaz Uh,Ht]);have hpk:=xK d (row.take j);have HKj:=aa (HKi.o.bZ Bi.o HKi.o.lt);have yk:b_ wr bd (row[j]) (bU (d.getD row[j] 0)):=(HKj.o.cell _).trans (Kt af);generalize row[j]=rj at c1 yO yk hrj;have VD:∀ x,jZ d (row.take j)=some x→x<n:=fun x hx=>by
       rw[hx]at hpk;have:=HKo.o x (List.mem_of_mem_take hpk.1);have:=HN.o;omega
      generalize jZ d (row.take j)=nx at yO VD ⊢;obtain⟨dk,hdk⟩:∃ x,x=d.getD rj 0:=⟨_,rfl⟩;have HDk:=aa hdk;rw[← hdk]at yk;clear hdk hpk cM;by_cases h0:dk≥0;(case neg=>have HE:=aa (show jZ d (row.take (j+1))=nx by rw[yO.o];unfold uJ;rw[if_neg (fun h=>h0 (by rw[HDk.o];exact h.1))]);have h1:dk<0:=af;have zd:decide (dk≥0)=false:=decide_eq_false h0;have zd2:decide (0≤dk)=false:=decide_eq_false h0;go_wp2_with fail;go_quiet (fail);have Du:=aa (below_drewN Bi.o nq);generalize wr.drewN nq=w5 at Du ⊢;go_wp2;go_roundw;exact⟨j+1,by omega,by rw[HE.o],rfl,Du⟩;simp[intOf];omega);cases nx with
      |none=>
       have HE:=aa (show jZ d (row.take (j+1))=some rj by rw[yO.o];unfold uJ;rw[if_pos ⟨by rw[← HDk.o];exact h0,rfl⟩]);simp only[nxI];go_wp2_with fail;go_quiet (fail);have Du:=aa (below_drewN Bi.o nq);generalize wr.drewN nq=w5 at Du ⊢;go_wp2;go_roundw;exact⟨j+1,by omega,by rw[HE.o],rfl,Du⟩;simp[intOf];omega
      |some x=>
       have hxn:=VD x rfl;have yx:b_ wr bd x (bU (d.getD x 0)):=(HKj.o.cell _).trans (Kt af);simp only[nxI];have hx0:¬((x:Int)<0):=af;obtain⟨dx,SK⟩:∃ y,y=d.getD x 0:=⟨_,rfl⟩;have HDx:=aa SK;rw[← SK]at yx;clear SK;by_cases h1:dk<dx;(case pos=>have HE:=aa (show jZ d (row.take (j+1))=some rj by rw[yO.o];unfold uJ;rw[if_pos ⟨by rw[← HDk.o];exact h0,by show decide _=true;rw[← HDk.o, ← HDx.o];exact decide_eq_true h1⟩]);go_wp2_with fail;go_quiet (fail);have Du:=aa (below_drewN Bi.o nq);generalize wr.drewN nq=w5 at Du ⊢;go_wp2;go_roundw;exact⟨j+1,by omega,by rw[HE.o],rfl,Du⟩;simp[intOf];omega);have HE:=aa (show jZ d (row.take (j+1))=some x by rw[yO.o];unfold uJ;rw[if_neg (fun h=>h1 (by have h2:decide (d.getD rj 0<d.getD x 0)=true:=h.2;rw[← HDk.o, ← HDx.o]at h2;exact of_decide_eq_true h2))]);go_wp2_with fail;go_quiet (fail);have Du:=aa (below_drewN Bi.o nq);generalize wr.drewN nq=w5 at Du ⊢;go_wp2;go_roundw;exact⟨j+1,by omega,by rw[HE.o],rfl,Du⟩;simp[intOf];omega
     (obtain rfl:nr=j:=by omega);rw[show row.take nr=row from aax (by have:=HNr.o;omega)];have hpk:=xK d row;have HPk:=aa (show ∀ x,jZ d row=some x→x<n∧0≤d.getD x 0 from fun x hx=>by
      rw[hx]at hpk;exact⟨by have:=HKo.o x hpk.1;have:=HN.o;omega,hpk.2.1⟩)
     have OG:=aa (show jZ d row=none→a1=k∧ml=1 from fun h=>by
      rcases Dm.o.2.2 with h2|h2
      (·exact⟨h2.1,by rw[Ii.o];exact h2.2⟩);rw[← HD.o]at h2;obtain⟨x,hx,_⟩:=HNe.o h2.1;rw[h]at hx;cases hx)
     clear hpk hj hjn;cases VD:jZ d row with
     |none=>
      obtain⟨rfl,_⟩:=OG.o VD;have Jj:=aa (show ∀ j,j<a1+1→∀ x,jZ (lH g j) (g.getD j [])=some x→u5≠ .slice none 0 0 from fun j hj x hx=>by
       by_cases e:j=a1
       (·subst e;rw[← HD.o,HGd.o,VD]at hx;cases hx);exact Tg.o j af x hx)
      have Ni:=aa (show Below w2 w2 wr from o6.o.trans (Bi.o.mono o6.o.size));have Va:=aa (Kw.o wr (sP.o.trans (Bi.o.mono (by have:=XZ.o;have:=sP.o.size;omega))));simp only[nxI];clear Kw Tg HKD HKi HNe Dm PN HPk OG;go_wp2;go_roundw;exact⟨a1+1,by omega,rfl,Va,Jj,Ni⟩;simp[intOf];omega
     |some x=>
      obtain⟨hxn,hxd⟩:=HPk.o x VD;have hx0:¬((x:Int)<0):=af;simp only[nxI];have Vb:=aa (oB PN.o Bi.o);by_cases hxk:x=k;case pos=>
       subst hxk;have Ni:=aa (show Below w2 w2 wr from o6.o.trans (Bi.o.mono o6.o.size));have Va:=aa (Kw.o wr (sP.o.trans (Bi.o.mono (by have:=XZ.o;have:=sP.o.size;omega))));have Sd:=aa (show Kv n (.slice (some ⟨lb,0,none⟩) ml lc) wr from .inr ⟨lb,lc,ml,x,rfl,hlp,hmn,hkn,by
        have h:=Vb.o;rw[← Ii.o]at h;rw[h.cellAt 0 af];have:=Dm.o.1;unfold ints;rw[List.getElem?_map,this];rfl⟩)
       have Jj:=aa (show ∀ j,j<x+1→∀ y,jZ (lH g j) (g.getD j [])=some y→(.slice (some ⟨lb,0,none⟩) ml lc:Value)≠ .slice none 0 0 from fun j hj y hy h=>by injection h with h;cases h);have hlp2:(ml:Int)>0:=af;have q:∀ (w:World) (a:Option Addr) (n c n' c':Nat),(binOp .eql 38 (.slice a n c) (.slice none n' c')).run prog w= .ok (.bool a.isNone) w:=fun w a n c n' c'=>Lib.run_eql_slice_nil w _ _ a n c n' c' underlying38;rcases Va.o with rfl|⟨b2,c2,m2,i2,rfl,h2,h3,h4,h5⟩
       (·clear Va Kw Tg HKD HKi HNe Dm PN HPk OG Vb;go_wp2;go_roundw;exact⟨x+1,by omega,rfl,Sd,Jj,Ni⟩;simp[intOf];omega);have Th:=aa (show ∀ j,j<x+1→∀ y,jZ (lH g j) (g.getD j [])=some y→(.slice (some ⟨b2,0,none⟩) m2 c2:Value)≠ .slice none 0 0 from fun j hj y hy h=>by injection h with h;cases h);clear Kw Tg HKD HKi HNe Dm PN HPk OG Vb;by_cases hlt:ml<m2
       (·have hlt2:(ml:Int)<(m2:Int):=af;go_wp2;go_roundw;exact⟨x+1,by omega,rfl,Sd,Jj,Ni⟩;simp[intOf];omega);have hlt2:¬((ml:Int)<(m2:Int)):=af;go_wp2;go_roundw;exact⟨x+1,by omega,rfl,Va,Th,Ni⟩;simp[intOf];omega
      have hxk2:¬((x:Int)=(k:Int)):=af;have hdp:0<d.getD x 0:=by
       have h1:¬d.getD x 0=0:=fun h=>hxk (HI.o.only x aC h);omega
      have hdl2:((ml+1:Nat):Int)+d.getD x 0≤g.length+1:=by
       have h1:=(HI.o.low x aC).2;have h3:=Ii.o;rcases Dm.o.2.2 with h2|h2
       (·have:=h2.2;have:=HN.o;omega);rw[← HD.o]at h2;obtain⟨y,hy,_,_,h4⟩:=HNe.o h2.1;rw[VD]at hy;injection hy with hy;subst hy;have:=h2.2;omega
      have Uf:(wr.alloc (.cells #[bU (x:Int)] 3)).ownsRow gB 3 1 (.slice (some ⟨lb,0,none⟩) ml lc) ml (ints l):=by
       have h:=oB Vb.o ((aaf wr wr).alloc aac (.cells #[bU (x:Int)] 3))
       rwa [← Ii.o]at h
      have YK:(wr.alloc (.cells #[bU (x:Int)] 3)).cell? ⟨wr,0,none⟩=some (bU (x:Int)):=cell_of_row _ _ _ _ _ _ (heap_alloc_new wr _);(have hBg:gB≤(wr.alloc (.cells #[bU (x:Int)] 3)).heap.size:=by rw[aaI];have:=XZ.o;have:=sP.o.size;have:=Bi.o.size;omega);have cG:=aa (show Below gB w4 (wr.alloc (.cells #[bU (x:Int)] 3))from(sP.o.trans (Bi.o.mono (by have:=XZ.o;have:=sP.o.size;omega))).alloc (by have:=XZ.o;have:=sP.o.size;have:=Bi.o.size;omega) _);have HLt:=aa (fun j e=>(tQ Uf j e).1);clear Kw Tg HKD HKi HNe HPk OG Vb PN HI U9;go_wp2_with (at_builtin;refine lT rfl (.tmp 65) (.tmp 67) 38 rfl underlying38 Uf rfl rfl YK af hBg ?_;intro B9 c9 w9 g1 g2 g3;have HG1:=aa g1;have Rb:=aa g2;clear g1 g2 g3 Uf YK);obtain⟨b9,ZL⟩:∃ b9,B9=some ⟨b9,0,none⟩:=by
       rcases HG1.o.2 with⟨_,h⟩|⟨b9,_,_,h,_⟩
       (·omega);injection h with h;exact⟨b9,h⟩
      subst ZL;have WX:=aa (show LstV g k gB (.slice (some ⟨b9,0,none⟩) (ml+1) c9) x w9 from⟨b9,c9,l++[(x:Int)],by rw[aao, ← Ii.o];rfl,by rw[aao, ← Ii.o];exact HG1.o,by rw[List.getElem?_append_left (by have:=Ii.o;omega)];exact Dm.o.1,by
       rw[aao, ← Ii.o,List.length_singleton];omega,.inr ⟨by rw[← HD.o];exact hdp,by rw[← HD.o,aao, ← Ii.o,List.length_singleton];exact hdl2⟩⟩)
      have je:=aa (show Below gB w4 w9 from cG.o.grown Rb.o (by have:=XZ.o;have:=cG.o.size;omega) HLt.o);clear HG1 Rb cG HLt Dm hdl2 hdp hBg;go_roundw;exact⟨x,hxn,rfl,WX,je⟩;show n+2 - (ml+1)<n+2 - ml;omega
  case neg=>
   (obtain rfl:n=k:=by omega);obtain⟨j,hj,x,hx⟩:=YX.o;have hne:=Tg.o j aC x hx;rcases Ns.o with h|⟨b,c',m,i,rfl,h2,h3,h4,h5⟩
   (·exact absurd h hne);clear hne Tg Ns YX;go_wp2;exact HP.o (.returned (.slice (some ⟨b,0,none⟩) m c')) _ ⟨b,c',m,i,rfl,h2,by have:=HN.o;omega,h5,dG.o.trans (HB.o.mono dG.o.size)⟩
end
open Go Go.RowKit
section
section
variable {P:Program} {ops:Array Oper} {md:Region.Mode} {S:World→Prop} {Q:Exit→Act→World→Prop} {D:List Nat} {i j:Nat} {r1 r2:List (Nat×Bool)}
def HC (P:Program) (md:Region.Mode) (ops:Array Oper) (S:World→Prop) (Q:Exit→Act→World→Prop) (D:List Nat) (i j:Nat) (r1 r2:List (Nat×Bool)):List Nat→Act→World→Prop
 |[],a,w=>wpOp P ops Q i (fun a' w'=>(needs md ops D i=true→S w')∧HW P md ops S Q D r1 a' w') a w∧wpOp P ops Q j (fun a' w'=>(needs md ops D j=true→S w')∧HW P md ops S Q D r2 a' w') a w
 |k :: pre,a,w=>∃ oi v,ops[k]? =some oi∧YieldsIf P ops S oi v a∧HC P md ops S Q D i j r1 r2 pre (a.put oi.dst v) w
def okC (md:Region.Mode) (ops:Array Oper) (D:List Nat) (i j:Nat) (r1 r2:List (Nat×Bool)):Array Bool→List Nat→Bool
 |listed,[]=>decide (Region.ready md ops listed=[i,j])&&(wA md ops D (listed.setIfInBounds i true) r1&&wA md ops D (listed.setIfInBounds j true) r2)
 |listed,k :: pre=>D.contains k&&(Region.ready md ops listed).contains k&&Region.free md ops listed k&&okC md ops D i j r1 r2 (listed.setIfInBounds k true) pre
theorem Ky {listed:Array Bool} (hsh:zP md ops listed) {i:Nat} (hi:i∈Region.ready md ops listed) {d:Nat} (hd:d∈D) (hu:(listed.setIfInBounds i true).getD d true=false):needs md ops D i=true:=by
 refine List.any_eq_true.2 ⟨d,hd,?_⟩;rw[Bool.not_eq_true'];cases hw:waits md ops 12 i d with
 |false=>rfl
 |true=>
  obtain⟨_,oj,Rc,hall⟩:=mem_ready.1 hi;have h1:=getD_set_true (i:=i) (nW hsh 12 i (fun o ho x hx hb=>by
   have:o=oj:=Option.some.inj (ho.symm.trans Rc);subst this;exact hall x hx hb) hw)
  rw[getD_both hu]at h1;cases h1
theorem FL (hsel:Region.noSelect ops=true) (hQ:∀ (d:Option Tmp) (v:Value) c a w,Q (.panic c) (a.put d v) w→Q (.panic c) a w) (hl:r1.length=r2.length):∀ (pre:List Nat) (listed:Array Bool) (a:Act) (w:World),zP md ops listed→
 okC md ops D i j r1 r2 listed pre=true→S w→HC P md ops S Q D i j r1 r2 pre a w→Pn P md ops Q S D (pre.length+(r1.length+1)) listed a w
 |[],listed,a,w,hsh,hB,hS,h=>by
  simp only[okC,aag,decide_eq_true_eq]at hB;obtain⟨hr,hB1,hB2⟩:=hB;rw[List.length_nil,Nat.zero_add];have hi:i∈Region.ready md ops listed:=(by rw[hr];simp);have hj:j∈Region.ready md ops listed:=(by rw[hr];simp);refine⟨fun h0=>(by rw[hr]at h0;cases h0),fun k hk=>?_⟩;have hk':k=i∨k=j:=(by rw[hr]at hk;simpa using hk);rcases hk' with rfl|rfl
  (·exact wpOp_mono (fun a' w' h3=>⟨h3.1,qu hsel hQ r1 _ a' w' (hsh.set hi) hB1 (fun⟨d,hd,hu⟩=>h3.1 (Ky hsh hi hd hu)) h3.2⟩) h.1);rw[hl];exact wpOp_mono (fun a' w' h3=>⟨h3.1,qu hsel hQ r2 _ a' w' (hsh.set hj) hB2 (fun⟨d,hd,hu⟩=>h3.1 (Ky hsh hj hd hu)) h3.2⟩) h.2
 |k :: pre,listed,a,w,hsh,hB,hS,⟨oi,v,hi,hy,h⟩=>by
  simp only[okC,aag]at hB
  obtain⟨⟨⟨hD,hr⟩,hf⟩,hB'⟩:=hB
  have hD':k∈D:=by simpa using hD
  have hr':k∈Region.ready md ops listed:=by simpa using hr
  have:=NZ hD' hi (Region.noSelect_spec hsel) (hQ oi.dst v) (pre.length+(r1.length+1)) listed a w hsh (Region.free_spec hi hf) hr' hy hS (FL hsel hQ hl pre _ _ w (hsh.set hr') hB' hS h)
  rwa [List.length_cons,show pre.length+1+(r1.length+1)=pre.length+(r1.length+1)+1 by omega]
theorem AQ {id:Nat} {a:Act} {w:World} {l:List Oper} (D:List Nat) (pre:List Nat) (i j:Nat) (r1 r2:List (Nat×Bool)) (hm:P.follows .mixedOrders=true) (hsel:Region.noSelect l.toArray=true) (hQ:∀ (d:Option Tmp) (v:Value) c a w,Q (.panic c) (a.put d v) w→Q (.panic c) a w) (hl:r1.length=r2.length) (hn:pre.length+(r1.length+1)=l.length) (hB:okC .any l.toArray D i j r1 r2 (aad l.toArray.size false) pre=true) (hS:S w.drew) (h:HC P .any l.toArray S Q D i j r1 r2 pre a w.drew):(Code.region id l.toArray true).wp P Q a w:=by
 refine wp_region_any hm ?_;have:=Cn _ _ _ _ (FL (P:=P) (md:= .any) hsel hQ hl pre _ a w.drew (fun j oj _ hl=>(by rw[getD_replicate_false]at hl;cases hl)) hB hS h);rw[hn]at this;simpa using this
theorem VN {k:Nat} {d:Option Tmp} {op:Op} {ty:TypeId} {pos:String} {AZ:Array Edge} {gd:Option (Nat×Bool)} {v:Value} {pre:List Nat} {a a':Act} {w:World} (h:HC P md ops S Q D i j r1 r2 pre (a'.put d v) w) (ha:a=a':=by first|(simp only[Act.put,List.setIfInBounds_toArray,List.set_cons_zero,List.set_cons_succ];done)|(simp only[Act.put,List.setIfInBounds_toArray,List.set_cons_zero,List.set_cons_succ];rfl)|rfl) (hi:ops[k]? =some ⟨d,op,ty,pos,AZ,gd⟩:=by rfl) (hw:Region.wanted ⟨d,op,ty,pos,AZ,gd⟩ (yielded ops a'.tmps)=true:=by kernel_rfl)
 (hy:∀ W,S W→(execOp a'.eval ⟨d,op,ty,pos,AZ,gd⟩).run P W= .ok (.value v) W:=by
  intro wq hSw;(try dsimp only at hSw);first
   |(go_simp;done)
   |(go_simp;with_reducible rfl)
   |(subst hSw;first|(go_simp;done)|(go_simp;with_reducible rfl))):HC P md ops S Q D i j r1 r2 (k :: pre) a w:=ha▸⟨⟨d,op,ty,pos,AZ,gd⟩,v,hi,.inl ⟨hw,hy⟩,h⟩
theorem Vc {a:Act} {w:World} (h1:wpOp P ops Q i (fun a' w'=>(needs md ops D i=true→S w')∧HW P md ops S Q D r1 a' w') a w) (h2:wpOp P ops Q j (fun a' w'=>(needs md ops D j=true→S w')∧HW P md ops S Q D r2 a' w') a w):HC P md ops S Q D i j r1 r2 [] a w:=⟨h1,h2⟩
theorem hcf {k:Nat} {d:Option Tmp} {op:Op} {ty:TypeId} {pos:String} {AZ:Array Edge} {gd:Option (Nat×Bool)} {r:List (Nat×Bool)} {a a':Act} {w:World}
 (h:∀ K':Act→World→Prop,Shut (∀ a w,S w→HW P md ops S Q D r a w→K' a w)→if Region.wanted ⟨d,op,ty,pos,AZ,gd⟩ (yielded ops a'.tmps)=true then Oper.wp P ⟨d,op,ty,pos,AZ,gd⟩ a' w K' Q else K' (a'.put d undef) w) (ha:a=a':=by first|(go_frame;done)|(go_frame;rfl)|rfl) (hi:ops[k]? =some ⟨d,op,ty,pos,AZ,gd⟩:=by rfl):
 wpOp P ops Q k (fun a' w'=>(needs md ops D k=true→S w')∧HW P md ops S Q D r a' w') a w:=ha▸wpOp_step hi (fun K' hK=>h K' (fun a w hS hW=>hK a w ⟨fun _=>hS,hW⟩))
end
end
end Go.Proofs.YtfppbjfnllhgcaaGreat
namespace Ck
open Go.Proofs.YtfppbjfnllhgcaaGreat Kb Sh
theorem Kz {X:cw→Int×cw} {fs:List cL} {tabs:List dZ} {vs:List fF} {l:List fD} {k:Nat} (hk:k<l.length):Ck.h_ X fs tabs vs (l.drop k)=if AK X fs tabs vs l[k]=0 then Ck.h_ X fs tabs vs (l.drop (k+1))else AK X fs tabs vs l[k]:=by
 rw[aah hk,Ck.h_]
theorem tH {X:cw→Int×cw} {fs:List cL} {tabs:List dZ} {vs:List fF}:∀ {l:List fD},Ck.h_ X fs tabs vs l=0→∀ c∈l,(X c.kY).1=0
 |[],_,c,hc=>by simp at hc
 |a :: l,h,c,hc=>by
  rw[Ck.h_]at h;split at h
  ·next h0=>
   rcases aas.1 hc with rfl|hc
   ·unfold AK at h0;split at h0
    (·cases h0);unfold jg at h0;split at h0
    (·(next h1=>exact absurd h0 h1));(next h1=>exact Classical.not_not.1 h1)
   exact tH h c hc
  (next h0=>exact absurd h h0)
theorem Nt {s:cK} (hr:fV s=true) (hk:gU s.funcs=0) {tabs:List dZ} {vs:List fF} (hc:Ck.h_ (XE s.funcs) s.funcs tabs vs s.cells=0):∃ g,jU s=some g:=by
 have e:Bc s=some (s.cells.map fun c=>(Lh s.funcs c).2):=(by unfold Bc;exact if_pos ⟨hr,hk,fun c hm=>tH hc c hm⟩);exact⟨(s.cells.map fun c=>(Lh s.funcs c).2).map (Da s.cells),by unfold jU;rw[e];rfl⟩
theorem QU {s:cK} {g:List (List Nat)} (hg:jU s=some g) (h:¬(jG s).1=0):Kn.jF g=none:=by
 unfold jG at h;rw[hg]at h;dsimp only at h;cases ho:Kn.jF g with
 |none=>rfl
 |some l=>rw[ho]at h;exact absurd rfl h
theorem Nu {s:cK} {g:List (List Nat)} (hz:gj s) (hg:jU s=some g) (h:(jG s).1=0):(jG s).2.length≤100∧∀ i∈(jG s).2,i<s.cells.length:=by
 obtain⟨h1,h2,h3,h4⟩:=pQ hz hg;unfold jG at h ⊢;rw[hg]at h ⊢;dsimp only at h ⊢;cases ho:Kn.jF g with
 |none=>rw[ho]at h;cases h
 |some l=>
  obtain⟨_,k2,k3,_⟩:=Kn.MN (fun i=>(h3 i).1) ho;exact⟨by show l.length≤100;omega,fun i hi=>by have:=(k3 i).1 hi;omega⟩
theorem QV {X:cw→Int×cw} {cells:List fD} {W:ByteArray→Option Int} {l:List Nat} {k:Nat} (hk:k<l.length) (hc:l[k]<cells.length):Dq X cells W (l.drop k)=(decide (100<J4 W (X cells[l[k]].kY).2)||Dq X cells (fun nm=>if nm=cells[l[k]].name then some (J4 W (X cells[l[k]].kY).2)else W nm) (l.drop (k+1))):=by
 rw[aah hk,Dq,List.getElem?_eq_getElem hc]
end Ck
namespace Go.Proofs.YtfppbjfnllhgcaaGreat
open Go Go.RowKit Bg Go.Proofs Sh Kb Ck
theorem DM:(Tryz.prog.info? 89).map (·.size)=some 10:=by kernel_rfl
theorem FM:(Tryz.prog.info? 47).map (·.size)=some 5:=by kernel_rfl
theorem nD {s:cK} (h:fV s=true):s.funcs.length≤100∧s.tables.length≤100∧s.inputs.length≤100∧s.cells.length≤100:=by
 have hl:=(iC h).len;have h1:s.funcs.length≤(uses s).length:=bK;have h2:s.tables.length≤(uses s).length:=bK;have h3:s.inputs.length≤(uses s).length:=bK;have h4:s.cells.length≤(uses s).length:=bK;omega
theorem X0 {s:cK} (hr:fV s=true) (hz:gj s) (hk:gU s.funcs=0):vB s.funcs s.tables:=by
 have hF:=wS hr hz;have hl:=nD hr;exact⟨Bz (ME hF af hk),hF,hk,fun f hf=>(gN ((hF.one f hf).1.body)).1,by omega,fun t ht=>⟨(hz.tables t ht).name,(hz.tables t ht).unit,(hz.tables t ht).rows⟩⟩
theorem X1 {s:cK} (hr:fV s=true) (hz:gj s):vC (mz s):=by
 have hl:=nD hr;unfold mz;refine⟨by rw[aao,aap,aap];omega,fun v hv=>?_⟩;rcases aar.1 hv with hv|hv
 (·obtain⟨x,hx,rfl⟩:=aat.1 hv;exact⟨kj x.unit,(hz.inputs x hx).name⟩);obtain⟨x,hx,rfl⟩:=aat.1 hv;exact⟨kj x.unit,(hz.cells x hx).name⟩
theorem o7 {s:cK} (hr:fV s=true) {c:fD} (hc:c∈s.cells):fB c.kY=true:=by
 have:=((iC hr).cells c hc).2;unfold nR at this;simp only[aag]at this;exact this.2
theorem vD (a:j6) (s:cK) (w:World) (hI:eo w Any a s) (hZ:gj s):Calls prog 14 #[.agg (dU a s).toArray] w (Np (ia s) w):=by
 obtain⟨q,hq⟩:∃ q,q=ia s:=⟨_,rfl⟩;rw[← hq];unfold ia G4 at hq;have HR:=aa hq;clear hq;generalize hP:Np q w=P;have HP:=aa (show ∀ e w',Np q w e w'→P e w' from fun e w' h=>hP▸h);clear hP;have HI:=aa hI;have HZ:=aa hZ;clear hI hZ;obtain⟨A1,q1,A2,q2,A3,q3,A4,q4,A5,q5,A6,q6,A7,q7,A8,q8⟩:=a;have HRt0:=aa (fun W (h:Below w w W)=>AG _ s W (HI.o.bZ h) HZ.o);have QW:=aa (fun W (h:Below w w W)=>Qg _ s W (HI.o.bZ h) HZ.o);have Vd:=aa (fun(hO:vB s.funcs s.tables) W (h:Below w w W)=>QK _ s W (HI.o.bZ h) hO);have QX:=aa (fun hl W (h:Below w w W)=>QI _ s W (HI.o.bZ h) HZ.o hl);have Nv:=aa (fun g hg ho W (h:Below w w W)=>QT _ s g hg ho W (HI.o.bZ h) HZ.o);simp only[dU]at HRt0 QW Vd QX Nv ⊢;go_enter func14,ntmps14;go_upto_region 1 with fail;obtain⟨w1,p,hw,hp,K0,fh,HB,iQ,uu⟩:=Ep w (g_ s A1 A2 A3 A4 A5 A6 A7 A8 q1 q2 q3 q4 q5 q6 q7 q8) 31;rw[hw,hp];clear hw hp;have fH:=aa (HRt0.o w1 HB.o);clear HRt0;have x0:=K0.o.cell;cases hr:fV s;(case false=>have HE:=aa (show q=2 by rw[HR.o,if_pos hr]);rw[hr]at fH;clear QW Vd QX Nv;go_wp2_with (go_at_call 35;refine fH.o.mono ?_;rintro e w2 ⟨rfl,hb2⟩;have dG:=aa (HB.o.trans (hb2.mono HB.o.size));clear hb2);exact HP.o (.returned (.tuple #[bU 2,bV ⟨#[]⟩])) _ ⟨_,by rw[HE.o],dG.o⟩);have hlen:=nD hr;rw[if_neg (by rw[hr];simp)]at HR;rw[hr]at fH;go_upto_region 3 with(go_at_call 35;refine fH.o.mono ?_;rintro e w2 ⟨rfl,hb2⟩;have dG:=aa (show Below (p+1) w1 w2 from hb2.mono fh.o);clear hb2);have xQ:=aa (uW A4 q4 s.funcs w2 (HI.o.funcs.bZ (iQ.o _ dG.o)) (wS hr HZ.o) af);have x0:=(K0.o.bZ dG.o af).cell;by_cases hk:gU s.funcs=0;(case neg=>have HE:=aa (show q=gU s.funcs by rw[HR.o,if_pos hk]);generalize gU s.funcs=ek at hk xQ HE;have zk:(ek != 0)=true:=(by simpa using hk);clear hk QW Vd QX Nv;go_wp2_with (go_at_call 36;refine xQ.o.mono ?_;rintro e w3 ⟨rfl,hb3⟩;have eF:=aa (dG.o.trans (hb3.mono (aaC fh.o dG.o.size)));clear hb3);exact HP.o (.returned (.tuple #[bU ek,bV ⟨#[]⟩])) _ ⟨_,by rw[HE.o],iQ.o _ eF.o⟩);rw[if_neg (fun h=>h hk)]at HR;have HO:=aa (X0 hr HZ.o hk);rw[hk]at xQ;go_upto_region 6 with(go_at_call 36;refine xQ.o.mono ?_;rintro e w3 ⟨rfl,hb3⟩;have eF:=aa (dG.o.trans (hb3.mono (aaC fh.o dG.o.size)));clear hb3);have HFu:=aa (Vd.o HO.o w3 (iQ.o _ eF.o));change Hid (q=if ¬nT (XE s.funcs) s.funcs s.tables s.funcs=0 then nT (XE s.funcs) s.funcs s.tables s.funcs else if ¬Ck.h_ (XE s.funcs) s.funcs s.tables (mz s) s.cells=0 then Ck.h_ (XE s.funcs) s.funcs s.tables (mz s) s.cells else if ¬(jG s).1=0 then(jG s).1 else if Dq (XE s.funcs) s.cells (fun _=>none) (jG s).2 then 6 else 0)at HR;obtain⟨BI,hf0⟩:∃ e,e=nT (XE s.funcs) s.funcs s.tables s.funcs:=⟨_,rfl⟩;rw[← hf0]at HFu HR;clear hf0;have x0:=(K0.o.bZ eF.o af).cell;have Yp:=aa hr;have HHk:=aa hk;clear Vd xQ dG hr hk;by_cases he:BI=0;(case neg=>have HE:=aa (show q=BI by rw[HR.o,if_pos he]);have zf:(BI != 0)=true:=(by simpa using he);clear he QW QX Nv;go_wp2_with (go_at_call 37;refine HFu.o.mono ?_;rintro e w4 ⟨nm,rfl,hb4⟩;have gC:=aa (eF.o.trans (hb4.mono (aaC fh.o eF.o.size)));clear hb4);exact HP.o (.returned (.tuple #[bU BI,bV nm])) _ ⟨_,by rw[HE.o],iQ.o _ gC.o⟩);rw[if_neg (fun h=>h he)]at HR;subst he;go_upto_region 9 with(go_at_call 37;refine HFu.o.mono ?_;rintro e w4 ⟨nm,rfl,hb4⟩;have gC:=aa (eF.o.trans (hb4.mono (aaC fh.o eF.o.size)));clear hb4);have YT:=aa (fun W (h:Below w4 w4 W)=>QX.o ⟨by omega,by omega⟩ W ((iQ.o _ gC.o).trans (h.mono (iQ.o _ gC.o).size)));have K4:=aa (K0.o.bZ gC.o af);have X2:=aa K4.o.lt;have zq:=aa (show Below w4 w4 w4.drew from⟨rfl,rfl,rfl,aaB _,fun _ _=>rfl⟩);have DN:=aa (show Below w4 w4 (w4.drew.alloc (.cells #[bV ⟨#[]⟩,cD,cD,cD,cD,cD,cD,cD,cD,cD] 89))from zq.o.alloc zq.o.size _);clear HFu eF QX x0;refine AQ (S:=fun w'=>∀ o',w'.cell? (bY p o')=((g_ s A1 A2 A3 A4 A5 A6 A7 A8 q1 q2 q3 q4 q5 q6 q7 q8):List Value)[o']?) [0,1,3] [0,1] 2 4 [(3,false),(4,true),(5,true)] [(2,true),(3,false),(5,true)] ah ah aq rfl rfl ah (fun o'=>K4.o.cell o') ?_;(iterate 2 refine VN ?_);refine Vc ?_ ?_;refine hcf fun K hK=>?_;go_simp;refine(YT.o _ zq.o).mono ?_;rintro e w5 ⟨VA,vc,rfl,hsv,ew⟩;have dF:=aa (zq.o.trans (ew.mono zq.o.size));have HV5:=aa (hsv.mono (S':=fun b=>b<w5.heap.size) fun b hb _=>hb);have hsz5:=aaI w5 (.cells #[bV ⟨#[]⟩,cD,cD,cD,cD,cD,cD,cD,cD,cD] 89);refine hK.o _ _ (fun o'=>(dF.o.cell (p:=bY p o') X2.o).trans (K4.o.cell o')) ?_;clear hK K;refine hwr ?_;refine hwt fun K hK=>?_;go_simp;refine hK.o _ _ (fun o'=>((dF.o.alloc dF.o.size _).cell (p:=bY p o') X2.o).trans (K4.o.cell o')) ?_;clear hK K;refine xN fun K hK=>?_;refine lX rfl _ _ _ rfl w5 [bV s.name,bW A1 s.imports q1,bW A2 s.inputs q2,bW A3 s.tables q3,bW A4 s.funcs q4,bW A5 s.cells q5,bW A6 s.ei q6,bW A7 s.stores q7,bW A8 s.cI q8,bW VA (mz s).length vc] aG aG 89 (show cN (w5.alloc (.cells #[bV ⟨#[]⟩,cD,cD,cD,cD,cD,cD,cD,cD,cD] 89)) w5 89 [bV ⟨#[]⟩,cD,cD,cD,cD,cD,cD,cD,cD,cD]from heap_alloc_new w5 _) DM rfl rfl ?_;intro w6 K6 CH;have HV6:=aa (show Sq nQ w6 Any VA (mz s)from((HV5.o.alloc _).keep (cB.fE CH fun b hb e=>by injection e with e;omega)).all);have eA:=aa (show Below w4 w4 w6 from(dF.o.alloc dF.o.size _).grown CH (by rw[aaI];have:=dF.o.size;omega) (fun j e=>by injection e with e;have:=dF.o.size;omega));clear CH hsz5 HV5 dF;generalize w5.heap.size=g at K6 ⊢;refine hK.o _ _ ?_;clear hK K;refine eD ?_;(try go_frame);rotate_left;refine hcf fun K hK=>?_;go_simp;refine hK.o _ _ (fun o'=>(DN.o.cell (p:=bY p o') X2.o).trans (K4.o.cell o')) ?_;clear hK K;refine hwt fun K hK=>?_;go_simp;refine(YT.o _ DN.o).mono ?_;rintro e w5 ⟨VA,vc,rfl,hsv,ew⟩;have dF:=aa (DN.o.trans (ew.mono DN.o.size));have HV5:=aa (hsv.mono (S':=fun b=>w4.heap.size<b) fun b hb h=>by rw[aaI]at h;exact h);have K5:=aa ((show cN (w4.drew.alloc (.cells #[bV ⟨#[]⟩,cD,cD,cD,cD,cD,cD,cD,cD,cD] 89)) w4 89 [bV ⟨#[]⟩,cD,cD,cD,cD,cD,cD,cD,cD,cD]from heap_alloc_new w4.drew _).bZ ew (by rw[aaI];exact aaE _));refine hK.o _ _ (fun o'=>(dF.o.cell (p:=bY p o') X2.o).trans (K4.o.cell o')) ?_;clear hK K;refine hwr ?_;refine xN fun K hK=>?_;refine lX rfl _ _ _ rfl w4 [bV s.name,bW A1 s.imports q1,bW A2 s.inputs q2,bW A3 s.tables q3,bW A4 s.funcs q4,bW A5 s.cells q5,bW A6 s.ei q6,bW A7 s.stores q7,bW A8 s.cI q8,bW VA (mz s).length vc] aG aG 89 K5.o DM rfl rfl ?_;intro w6 K6 CH;have HV6:=aa (show Sq nQ w6 Any VA (mz s)from(HV5.o.keep (cB.fE CH fun b hb e=>by injection e with e;omega)).all);have eA:=aa (show Below w4 w4 w6 from dF.o.grown CH dF.o.size (fun j e=>by injection e with e;omega));clear CH HV5 dF K5;generalize hgg:w4.heap.size=g at K6 ⊢;clear hgg;refine hK.o _ _ ?_;clear hK K;refine eD ?_;(try go_frame);all_goals (
  clear YT zq DN K4 X2
  have HVo:=aa (X1 Yp.o HZ.o)
  have gT:=aa (show Below (p+1) w1 w6 from gC.o.trans (eA.o.mono (aaC fh.o gC.o.size)))
  have Ll:=aa (show g<w6.heap.size∧p+1≤w6.heap.size from⟨K6.o.lt,aaC fh.o gT.o.size⟩)
  clear eA gC
  have xQ:=aa (fun c (hc:c∈s.cells) ds W (h:Below w6 w6 W) (hi:cH W Any ds c.kY)=>DI A4 A3 VA q4 q3 vc s.funcs s.tables (mz s) HO.o HVo.o (bV s.name) (bW A1 s.imports q1) (bW A2 s.inputs q2) (bW A5 s.cells q5) (bW A6 s.ei q6) (bW A7 s.stores q7) (bW A8 s.cI q8) c.kY (o7 Yp.o hc) ds W (HI.o.funcs.bZ (iQ.o _ (gT.o.trans (h.mono Ll.o.2)))) (HI.o.tables.bZ (iQ.o _ (gT.o.trans (h.mono Ll.o.2)))) (HV6.o.bZ h) hi)
  have ua:=aa (fun y=>DK (fs:=s.funcs) (tabs:=s.tables) HVo.o y)
  have HGs:=aa (fun(h:Ck.h_ (XE s.funcs) s.funcs s.tables (mz s) s.cells=0)=>Nt Yp.o HHk.o h)
  generalize mz s=vs at xQ ua HGs HR K6
  have x0:=(K0.o.bZ gT.o af).cell
  have YY:=aa (aaf w6 w6)
  go_wp2_with fail
  go_loopw [45] (fun v wr=>∃ k:Nat,k≤s.cells.length∧v=bU (k:Int)∧Hid (Ck.h_ (XE s.funcs) s.funcs s.tables vs s.cells=Ck.h_ (XE s.funcs) s.funcs s.tables vs (s.cells.drop k))∧Hid (Below w6 w6 wr)) (fun v _=>s.cells.length - (intOf v).toNat)
  case atStart=>exact⟨0,aaG _,rfl,aa rfl,YY⟩
  case round=>
   clear YY x0
   obtain⟨k,hk,rfl,HF,dH⟩:=hrel
   rename World=>wo
   have Rz:=aa (gT.o.trans (dH.o.mono Ll.o.2))
   have cG:=aa (iQ.o _ Rz.o)
   have x0:=(K0.o.bZ Rz.o af).cell
   by_cases hlt:k<s.cells.length
   case pos=>
    obtain⟨bl,o,eR,yn,eT,eU,B9,ny,c9,hA,hbl,g0,g1,g2,g3,g4,g5,g6,hie⟩:=ug (HI.o.cells.bZ cG.o) hlt;subst hA;have hmem:=aan hlt;have uo:=aa (Kz (X:=XE s.funcs) (fs:=s.funcs) (tabs:=s.tables) (vs:=vs) (l:=s.cells) hlt);have X3:=aa (show AK (XE s.funcs) s.funcs s.tables vs s.cells[k]=if(jg (XE s.funcs) s.funcs s.tables vs s.cells[k].kY).1=0∧¬(jg (XE s.funcs) s.funcs s.tables vs s.cells[k].kY).2=iu s.cells[k].unit then 14 else(jg (XE s.funcs) s.funcs s.tables vs s.cells[k].kY).1 by unfold AK;rfl);have hcc:=xQ.o _ hmem;have YR:=ua.o s.cells[k].kY;have hcu:=(HZ.o.cells _ hmem).unit;generalize AK (XE s.funcs) s.funcs s.tables vs s.cells[k]=ac at uo X3;generalize jg (XE s.funcs) s.funcs s.tables vs s.cells[k].kY=cq at hcc X3 YR;generalize s.cells[k]=c at hcc X3 g0 g1 hie hcu;obtain⟨cn,cu,cd⟩:=c;dsimp only at hcc X3 g0 g1 hie hcu;obtain⟨ce,cdm⟩:=cq;obtain⟨d0,d1,d2,d3,d4,d5,hcd⟩:=six (show cdm.length=6 from YR);subst hcd;(try dsimp only at X3);clear hmem YR;go_upto_region 13 with fail;obtain⟨wd,hwd⟩:∃ we,we=wo.alloc (.cells #[bV cn,bV cu,.int .i64 eR,.int .i64 yn,bV eT,bV eU,bW B9 ny c9] 49):=⟨_,rfl⟩;have KB:=aa (show cN wd wo 49 [bV cn,bV cu,.int .i64 eR,.int .i64 yn,bV eT,bV eU,bW B9 ny c9] by rw[hwd];exact heap_alloc_new wo _);have o6:=aa (show Below wo wo wd by rw[hwd];exact cS _);rw[← hwd];clear hwd g0 g1 g2 g3 g4 g5 g6 x0;have pg:=aa (dH.o.trans (o6.o.mono dH.o.size));have VV:Hid (Calls prog 39 #[.agg #[bV s.name,bW A1 s.imports q1,bW A2 s.inputs q2,bW A3 s.tables q3,bW A4 s.funcs q4,bW (bY bl o) s.cells q5,bW A6 s.ei q6,bW A7 s.stores q7,bW A8 s.cI q8,bW VA vs vc],.agg #[.int .i64 eR,.int .i64 yn,bV eT,bV eU,bW B9 ny c9]] wd fun e w'=>e= .returned (.tuple #[.agg #[.int .i64 d0,.int .i64 d1,.int .i64 d2,.int .i64 d3,.int .i64 d4,.int .i64 d5],.int .i64 ce])∧Below wd wd w'):=by
     have h1:=hcc [bU eR,bU yn,bV eT,bV eU,bW B9 ny c9] wd pg.o (di.keep hie (cB.cA o6.o));refine aa (h1.mono ?_);rintro e w' ⟨h2,h3⟩;refine⟨h2.trans ?_,h3⟩;show Ending.returned (.tuple #[.agg (ic [d0,d1,d2,d3,d4,d5]).toArray,bU ce])=_;rw[qO]
    clear hcc hie;obtain⟨gb,hgb⟩:∃ b,b=wo.heap.size:=⟨_,rfl⟩;rw[← hgb]at KB ⊢;have Ue:=aa (show gb<wd.heap.size from KB.o.lt);clear hgb o6;have y0:=KB.o.cell;have y1:=(K6.o.bZ pg.o Ll.o.1).cell;go_upto_region 14 with(go_at_call 39;refine VV.o.mono ?_;rintro e w5 ⟨rfl,ew⟩;have dF:=aa ew;clear ew y0 y1);have XU:=aa (show cN (w5.alloc (.cells #[bU d0,bU d1,bU d2,bU d3,bU d4,bU d5] 91)) w5 91 [bU d0,bU d1,bU d2,bU d3,bU d4,bU d5]from heap_alloc_new w5 _);have ko:=aa (dF.o.alloc dF.o.size (.cells #[bU d0,bU d1,bU d2,bU d3,bU d4,bU d5] 91));have hpd:w5.heap.size<(w5.alloc (.cells #[bU d0,bU d1,bU d2,bU d3,bU d4,bU d5] 91)).heap.size:=XU.o.lt;generalize w5.alloc (.cells #[bU d0,bU d1,bU d2,bU d3,bU d4,bU d5] 91)=w7 at XU ko hpd ⊢;generalize w5.heap.size=pd5 at XU hpd ⊢;have KB7:=aa (KB.o.bZ ko.o Ue.o);have DX:=aa (pg.o.trans (ko.o.mono pg.o.size));have xk:=XU.o.cell;have yk:=KB7.o.cell;clear dF VV KB ko;by_cases hne:ce=0;case neg=>
     have HE:=aa (show q=ce by
      have h1:ac=ce:=(by rw[X3.o,if_neg (fun h=>hne h.1)]);have h2:Ck.h_ (XE s.funcs) s.funcs s.tables vs s.cells=ce:=(by rw[HF.o,uo.o,h1,if_neg hne]);rw[HR.o,h2,if_pos hne])
     have zn:(ce==0)=false:=by simpa using hne
     have zm:(ce != 0)=true:=by simpa using hne
     clear hne
     go_wp2_with fail
     go_quiet (fail)
     have lD:=aa (below_drewN DX.o nq)
     have yq:=(show cN (w7.drewN nq) gb 49 [bV cn,bV cu,bU eR,bU yn,bV eT,bV eU,bW B9 ny c9]from KB7.o).cell
     generalize w7.drewN nq=w8 at lD yq ⊢
     clear xk yk
     go_wp2_with fail
     rename_i nq0
     go_quiet (fail)
     have je:=aa (below_drewN lD.o nq)
     generalize w8.drewN nq=w9 at je ⊢
     go_wp2_with fail
     exact HP.o (.returned (.tuple #[bU ce,bV cn])) _ ⟨_,by rw[HE.o],iQ.o _ (gT.o.trans (je.o.mono Ll.o.2))⟩
    subst hne;have BG:=aa (fun W=>tF cu hcu W);obtain⟨u0,u1,u2,u3,u4,u5,hu⟩:=six (kj cu);rw[hu]at BG X3;simp only[ic,List.getD_cons_zero,List.getD_cons_succ]at BG;have rX:=BD d0 d1 d2 d3 d4 d5 u0 u1 u2 u3 u4 u5;have xM:=aa (show ∀ W,Below w7 w7 W→∀ b' o',b'<w7.heap.size→W.cell? (bY b' o')=w7.cell? (bY b' o')from fun W h b' o' hb=>h.cell (p:=bY b' o') hb);have r1:gb<w7.heap.size:=KB7.o.lt;have HB7d:=aa (show Below w7 w7 w7.drew from⟨rfl,rfl,rfl,aaB _,fun _ _=>rfl⟩);clear hu;obtain⟨nb,hnb⟩:∃ b,b= !decide ([d0,d1,d2,d3,d4,d5]=[u0,u1,u2,u3,u4,u5]):=⟨_,rfl⟩;(have hq:∀ W,(binOp .neq 91 (.agg #[bU d0,bU d1,bU d2,bU d3,bU d4,bU d5]) (.agg #[bU u0,bU u1,bU u2,bU u3,bU u4,bU u5])).run prog W= .ok (.bool nb) W:=fun W=>by rw[rX,hnb]);have HNb:=aa hnb;clear rX hnb;go_wp2_with fail;refine cV (S:=fun w'=>∀ b' o',b'<w7.heap.size→w'.cell? (bY b' o')=w7.cell? (bY b' o')) [0,1,2,3,4,5,7,8] [(0,false),(1,false),(2,false),(3,false),(4,false),(5,false),(6,true),(7,false),(8,false)] ah ah aq rfl ah (fun _ _ _=>rfl) ?_;(iterate 6 refine hwr ?_);refine hwt fun K hK=>?_;go_simp;refine(BG.o _).mono ?_;rintro e w8 ⟨rfl,o_⟩;have lD:=aa (HB7d.o.trans (o_.mono HB7d.o.size));refine hK.o _ _ (xM.o _ lD.o) ?_;clear hK K;(iterate 2 refine hwr ?_);refine eD ?_;(try go_frame);have HB8s:=aa (DX.o.trans (lD.o.mono DX.o.size));cases nb;case true=>
     (have hd:¬[d0,d1,d2,d3,d4,d5]=[u0,u1,u2,u3,u4,u5]:=fun h=>by have:=HNb.o;rw[decide_eq_true h]at this;cases this);have HE:=aa (show q=14 by
      have h1:ac=14:=(by rw[X3.o,if_pos ⟨by simp,hd⟩]);have h2:Ck.h_ (XE s.funcs) s.funcs s.tables vs s.cells=14:=(by rw[HF.o,uo.o,h1];rfl);rw[HR.o,h2];rfl)
     have y8:∀ o',w8.cell? (bY gb o')=([bV cn,bV cu,bU eR,bU yn,bV eT,bV eU,bW B9 ny c9]:List Value)[o']? :=fun o'=>(lD.o.cell (p:=bY gb o') r1).trans (yk o');clear xk yk hq r1 hpd;go_wp2_with fail;go_quiet (fail);have je:=aa (below_drewN HB8s.o nq);generalize w8.drewN nq=w9 at je ⊢;go_wp2;exact HP.o (.returned (.tuple #[bU 14,bV cn])) _ ⟨_,by rw[HE.o],iQ.o _ (gT.o.trans (je.o.mono Ll.o.2))⟩
    (have hd:[d0,d1,d2,d3,d4,d5]=[u0,u1,u2,u3,u4,u5]:=Classical.byContradiction fun h=>by have:=HNb.o;rw[decide_eq_false h]at this;cases this);have HFz:=aa (show Ck.h_ (XE s.funcs) s.funcs s.tables vs s.cells=Ck.h_ (XE s.funcs) s.funcs s.tables vs (s.cells.drop (k+1)) by
     have h1:ac=0:=(by rw[X3.o,if_neg (fun h=>h.2 hd)]);rw[HF.o,uo.o,h1];rfl)
    clear xk yk hq r1 hpd;go_wp2;go_roundw;exact⟨k+1,by omega,rfl,HFz,HB8s⟩;simp[intOf];omega
   case neg=>
    have Wi:=aa (show Ck.h_ (XE s.funcs) s.funcs s.tables vs s.cells=0 by rw[HF.o,List.drop_eq_nil_of_le af,Ck.h_]);clear HF xQ ua HV6 HVo;obtain⟨gg,hgg⟩:=HGs.o Wi.o;rw[if_neg (fun h=>h Wi.o)]at HR;have HGg:=aa hgg;have HGl:=aa (pQ HZ.o hgg).2.1;have uD:=aa (fun c (hc:c∈s.cells)=>tH Wi.o c hc);clear hgg HGs Wi;have HOb:=aa (fun h=>QU HGg.o h);have HOg:=aa (fun h=>Nu HZ.o HGg.o h);have HOr1:=QW.o wo cG.o;generalize jG s=od at HOr1 HR HOb HOg;obtain⟨oe,ol⟩:=od;dsimp only at HR HOb HOg;have HOr:Hid (Calls prog 19 #[.agg (g_ s A1 A2 A3 A4 A5 A6 A7 A8 q1 q2 q3 q4 q5 q6 q7 q8)] wo fun e w'=>∃ A c,e= .returned (.tuple #[bW A ol c,bU oe])∧Sq jV w' (fun b=>b<w'.heap.size) A ol∧Below wo wo w'):=aa (HOr1.mono (by rintro e w' ⟨A,c,rfl,h1,h2⟩;exact⟨A,c,rfl,h1.mono (fun b hb _=>hb),h2⟩));clear HOr1 QW;by_cases ho:oe=0;(case neg=>have HE:=aa (show q=oe by rw[HR.o,if_pos ho]);have HCy1:=aa (fun W (h:Below wo wo W)=>Nv.o gg HGg.o (HOb.o ho) W (cG.o.trans (h.mono cG.o.size)));have zo:(oe != 0)=true:=bE;clear ho Nv;go_upto_region 21 with(go_at_call 19;refine HOr.o.mono ?_;rintro e w8 ⟨OA,oc,rfl,hso,o_⟩;have lD:=aa (Rz.o.trans (o_.mono (aaC fh.o Rz.o.size)));have HCy:=aa (fun W (h:Below w8 w8 W)=>HCy1.o W (o_.trans (h.mono o_.size)));clear hso o_);have K8:=aa (K0.o.bZ lD.o af);have HL8:=aa (aaC fh.o lD.o.size);have HLp:=aa (show p<w8.heap.size from K8.o.lt);have HBd8:=aa (show Below w8 w8 w8.drew from⟨rfl,rfl,rfl,aaB _,fun _ _=>rfl⟩);clear x0 HOr HCy1;refine cV (S:=fun w'=>∀ o',w'.cell? (bY p o')=((g_ s A1 A2 A3 A4 A5 A6 A7 A8 q1 q2 q3 q4 q5 q6 q7 q8):List Value)[o']?) [0,1,3,2,10,11] [(0,false),(1,false),(3,false),(2,false),(4,true),(10,false),(5,true),(6,true),(7,true),(8,true),(9,true),(11,false)] ah ah aq rfl ah (fun o'=>K8.o.cell o') ?_;(iterate 4 refine hwr ?_);refine hwt fun K hK=>?_;go_simp;refine(HCy.o _ HBd8.o).mono ?_;rintro e w9 ⟨cb,cc,cm,ci,rfl,hcm,hci,hcc,l9⟩;have je:=aa (HBd8.o.trans (l9.mono HBd8.o.size));obtain⟨bl,o,cs,hA,_,hbl,ey,cM⟩:=(HI.o.cells.bZ (iQ.o _ (lD.o.trans (je.o.mono HL8.o)))).get (show ci<s.cells.length by have:=HGl.o;omega);(have g0:b_ w9 bl (o+ci*7) (bV s.cells[ci].name):=by obtain⟨es,G5,hie⟩:=ey;exact cM 0 _ (by rw[G5];rfl));generalize s.cells[ci].name=cnm at g0;subst hA;(have hcil:ci<s.cells.length:=by have:=HGl.o;omega);clear ey cM l9 hci;refine hK.o _ _ (fun o'=>(je.o.cell (p:=bY p o') HLp.o).trans (K8.o.cell o')) ?_;clear hK K;refine hwr ?_;refine hwt fun K hK=>?_;go_simp;refine hK.o _ _ (fun o'=>(je.o.cell (p:=bY p o') HLp.o).trans (K8.o.cell o')) ?_;clear hK K;refine hwt fun K hK=>?_;go_simp;refine hK.o _ _ (fun o'=>(je.o.cell (p:=bY p o') HLp.o).trans (K8.o.cell o')) ?_;clear hK K;refine hwt fun K hK=>?_;go_simp;refine hK.o _ _ (fun o'=>(je.o.cell (p:=bY p o') HLp.o).trans (K8.o.cell o')) ?_;clear hK K;refine hwt fun K hK=>?_;go_simp;refine hK.o _ _ (fun o'=>(je.o.cell (p:=bY p o') HLp.o).trans (K8.o.cell o')) ?_;clear hK K;refine hwt fun K hK=>?_;go_simp;refine hK.o _ _ (fun o'=>(je.o.cell (p:=bY p o') HLp.o).trans (K8.o.cell o')) ?_;clear hK K;refine hwr ?_;refine eD ?_;(try go_frame);go_wp2;exact HP.o (.returned (.tuple #[bU oe,bV cnm])) _ ⟨_,by rw[HE.o],iQ.o _ (lD.o.trans (je.o.mono HL8.o))⟩);obtain⟨Sk,hoi⟩:=HOg.o ho;rw[if_neg (fun h=>h ho)]at HR;subst ho;have HOi:=aa hoi;clear hoi HOg HOb Nv HGg HGl;obtain⟨nl,hnl⟩:∃ n,n=ol.length:=⟨_,rfl⟩;have Dl:=aa hnl;rw[← hnl]at HOr Sk;clear hnl;have hmm:=@run_makeMap prog;go_upto_region 23 with(go_at_call 19;refine HOr.o.mono ?_;rintro e w8 ⟨OA,oc,rfl,hso,o_⟩;have HSo8:=aa hso;have lD:=aa (Rz.o.trans (o_.mono (aaC fh.o Rz.o.size)));clear hso o_);obtain⟨gw,F0⟩:∃ m,m=w8.heap.size:=⟨_,rfl⟩;have HLw:=aa (show p+1≤gw by have:=fh.o;have:=lD.o.size;omega);have Ol:=aa (show fP (w8.alloc (.map #[] 0)) gw 0 (wV fun _=>none) by rw[F0];exact fP.made w8);have je:=aa (lD.o.alloc (aaC fh.o lD.o.size) (.map #[] 0));have HSo:=aa (show Sq jV (w8.alloc (.map #[] 0)) (fun b=>b<gw) OA ol by rw[F0];exact HSo8.o.alloc _);have WX:=aa (show gw≤(w8.alloc (.map #[] 0)).heap.size by rw[aaI];omega);rw[← F0];clear F0 HSo8 HOr;generalize w8.alloc (.map #[] 0)=w9 at Ol je HSo WX ⊢;clear x0;have x0:=(K0.o.bZ je.o af).cell;have YY:=aa ((aaf w9 w9).mono WX.o);have HW0:=aa (show WOK fun _=>none from fun nm v h=>by cases h);go_wp2;go_loopw [91] (fun v wr=>∃ (k:Nat) (W:ByteArray→Option Int),k≤nl∧v=bU (k:Int)∧Hid (WOK W)∧Hid (fP wr gw k (wV W))∧Hid (Dq (XE s.funcs) s.cells (fun _=>none) ol=Dq (XE s.funcs) s.cells W (ol.drop k))∧Hid (Below gw w9 wr)) (fun v _=>nl - (intOf v).toNat);(case atStart=>exact⟨0,_,aaG _,rfl,HW0,Ol,aa rfl,YY⟩);case round=>
     clear Ol YY HW0 x0
     obtain⟨k,W,hk,rfl,HW,HM,HA,HBu⟩:=hrel
     rename World=>w4
     have Ns:=aa (je.o.trans (HBu.o.mono HLw.o))
     have x0:=(K0.o.bZ Ns.o af).cell
     by_cases hlt:k<nl
     case pos=>
      (have nO:k<ol.length:=by have:=Dl.o;omega);obtain⟨ob,oo,ocs,hA,_,hobl,hos,hoc⟩:=(HSo.o.keep (cB.tP HBu.o fun b h=>h)).get nO;subst hA;have hos:ocs=[bU ((ol[k]:Nat):Int)]:=hos;subst hos;(have n0:b_ w4 ob (oo+k) (bU ((ol[k]:Nat):Int)):=by have:=hoc 0 _ rfl;rwa [show oo+k*jV.k+0=oo+k by show oo+k*1+0=_;omega]at this);have hci:=HOi.o _ (aan nO);have Nj:=aa (QV (X:=XE s.funcs) (cells:=s.cells) (W:=W) nO hci);obtain⟨bl,o,eR,yn,eT,eU,B9,ny,c9,hA,hbl,g0,g1,g2,g3,g4,g5,g6,hie⟩:=ug (HI.o.cells.bZ (iQ.o _ Ns.o)) hci;subst hA;have hmem:=aan hci;obtain⟨rr,hXo⟩:=HO.o.X;have Hw:=aa (o7 Yp.o hmem);have HSx:=aa (FD HO.o Hw.o (uD.o _ hmem));have Nw:=aa (HZ.o.cells _ hmem).name;have oq:=aa (fun W (h:Below w4 w4 W)=>pO A4 q4 s.funcs (rU s.funcs) rr hXo HO.o.F HO.o.ck s.cells[ol[k]].kY (pS Hw.o) Hw.o (gN Hw.o).1 W _ (HI.o.funcs.bZ (iQ.o _ (Ns.o.trans (h.mono (aaC fh.o Ns.o.size))))) (di.keep hie (cB.cA h)));clear hie hXo Hw hmem;generalize s.cells[ol[k]]=c at Nj oq HSx Nw g0 g1;obtain⟨cn,cu,cd⟩:=c;dsimp only at Nj HSx Nw g0 g1;change Hid (∀ W,Below w4 w4 W→Calls _ _ _ W (oM (XE s.funcs cd) W))at oq;generalize ol[k]=ci at n0 hci g0 g1 g2 g3 g4 g5 g6;clear hos hoc;have HWr:=aa (FI HW.o _ (XE s.funcs cd).2 aac);have zq:=aa (show Below w4 w4 w4.drew from⟨rfl,rfl,rfl,aaB _,fun _ _=>rfl⟩);have DN:=aa (show Below w4 w4 (w4.drew.alloc (.cells #[bU 0,bU 0,bV ⟨#[]⟩,bV ⟨#[]⟩,cD] 47))from zq.o.alloc zq.o.size _);have xM:=aa (show ∀ W,Below w4 w4 W→∀ b' o',b'<w4.heap.size→W.cell? (bY b' o')=w4.cell? (bY b' o')from fun W h b' o' hb=>h.cell (p:=bY b' o') hb);have v0:p<w4.heap.size:=aaD K0.o.lt Ns.o.size;go_upto_region 26 with fail;refine AQ (S:=fun w'=>∀ b' o',b'<w4.heap.size→w'.cell? (bY b' o')=w4.cell? (bY b' o')) [0,1,2,3,4,5,6,7,9,10,11,14] [0,2,6,1,7,3,4,5] 8 12 [(9,false),(10,false),(11,false),(12,true),(13,true),(14,false)] [(8,true),(9,false),(10,false),(11,false),(13,true),(14,false)] ah ah aq rfl rfl ah (fun _ _ _=>rfl) ?_;(iterate 8 refine VN ?_);refine Vc ?_ ?_;refine hcf fun K hK=>?_;go_simp;refine(oq.o _ zq.o).mono ?_;rintro e w5 ⟨es2,rfl,Nx,ew⟩;obtain⟨ku,zn,kA,kB,B10,c10,zr,Ai,hzs,_⟩:=cH.parts Nx;subst hzs;clear Ai;have dF:=aa (zq.o.trans (ew.mono zq.o.size));have HI5:=aa (di.mono (S':=fun b=>b<w5.heap.size) Nx fun b hb _=>hb);generalize zr.length=nz at HI5 ⊢;have hsz5:=aaI w5 (.cells #[bU 0,bU 0,bV ⟨#[]⟩,bV ⟨#[]⟩,cD] 47);clear Nx ew;refine hK.o _ _ (xM.o _ dF.o) ?_;clear hK K;(iterate 3 refine hwr ?_);refine hwt fun K hK=>?_;go_simp;refine hK.o _ _ (xM.o _ (dF.o.alloc dF.o.size _)) ?_;clear hK K;refine hwt fun K hK=>?_;refine lX rfl _ _ _ rfl w5 [bU ku,bU zn,bV kA,bV kB,bW B10 nz c10] aG aG 47 (show cN (w5.alloc (.cells #[bU 0,bU 0,bV ⟨#[]⟩,bV ⟨#[]⟩,cD] 47)) w5 47 [bU 0,bU 0,bV ⟨#[]⟩,bV ⟨#[]⟩,cD]from heap_alloc_new w5 _) FM rfl rfl ?_;intro w6 K6 CH;have HI6:=aa (show cH w6 Any [bU ku,bU zn,bV kA,bV kB,bW B10 nz c10] (XE s.funcs cd).2 from di.mono (di.keep (di.keep HI5.o (cB.cA (cS _))) (cB.fE CH fun b hb e=>by injection e with e;omega)) fun _ _ _=>trivial);have eA:=aa (show Below w4 w4 w6 from(dF.o.alloc dF.o.size _).grown CH (by rw[aaI];have:=dF.o.size;omega) (fun j e=>by injection e with e;have:=dF.o.size;omega));clear CH hsz5 HI5 dF;generalize w5.heap.size=g2 at K6 ⊢;refine hK.o _ _ (fun b' o' hb'=>(eA.o.cell (p:=bY b' o') hb')) ?_;clear hK K;refine hwr ?_;refine eD ?_;(try go_frame);rotate_left;refine hcf fun K hK=>?_;go_simp;refine hK.o _ _ (xM.o _ DN.o) ?_;clear hK K;refine hwt fun K hK=>?_;go_simp;refine(oq.o _ DN.o).mono ?_;rintro e w5 ⟨es2,rfl,Nx,ew⟩;obtain⟨ku,zn,kA,kB,B10,c10,zr,Ai,hzs,_⟩:=cH.parts Nx;subst hzs;clear Ai;have dF:=aa (DN.o.trans (ew.mono DN.o.size));have HI5:=aa (di.mono (S':=fun b=>w4.heap.size<b) Nx fun b hb h=>by rw[aaI]at h;exact h);generalize zr.length=nz at HI5 ⊢;have K5:=aa ((show cN (w4.drew.alloc (.cells #[bU 0,bU 0,bV ⟨#[]⟩,bV ⟨#[]⟩,cD] 47)) w4 47 [bU 0,bU 0,bV ⟨#[]⟩,bV ⟨#[]⟩,cD]from heap_alloc_new w4.drew _).bZ ew (by rw[aaI];exact aaE _));clear Nx ew;refine hK.o _ _ (xM.o _ dF.o) ?_;clear hK K;(iterate 3 refine hwr ?_);refine hwt fun K hK=>?_;refine lX rfl _ _ _ rfl w4 [bU ku,bU zn,bV kA,bV kB,bW B10 nz c10] aG aG 47 K5.o FM rfl rfl ?_;intro w6 K6 CH;have HI6:=aa (show cH w6 Any [bU ku,bU zn,bV kA,bV kB,bW B10 nz c10] (XE s.funcs cd).2 from di.mono (di.keep HI5.o (cB.fE CH fun b hb e=>by injection e with e;omega)) fun _ _ _=>trivial);have eA:=aa (show Below w4 w4 w6 from dF.o.grown CH dF.o.size (fun j e=>by injection e with e;omega));clear CH HI5 dF K5;generalize hgg:w4.heap.size=g2 at K6 ⊢;clear hgg;refine hK.o _ _ (fun b' o' hb'=>(eA.o.cell (p:=bY b' o') hb')) ?_;clear hK K;refine hwr ?_;refine eD ?_;(try go_frame);all_goals (
       have X2:=aa (show p+1≤w4.heap.size from aaC fh.o Ns.o.size)
       clear oq zq DN xM x0 v0
       have HCw:=aa (Hs gw k W HW.o _ (XE s.funcs cd).2 aac HSx.o.1 (by have:=HSx.o.2;omega) w6 _ (HM.o.bZ eA.o HM.o.lt) HI6.o)
       generalize J4 W (XE s.funcs cd).2=wv at HCw Nj HWr
       have x6:=K6.o.cell
       by_cases hw:100<wv
       case pos=>
        have HE:=aa (show q=6 by rw[HR.o,HA.o,Nj.o,decide_eq_true hw];rfl);have zw:decide (wv>100)=true:=(by simpa using hw);clear hw;go_upto_region 29 with(go_at_call 43;refine HCw.o.mono ?_;rintro e w7 ⟨rfl,nE⟩;have ko:=aa (eA.o.trans (nE.mono eA.o.size));clear nE x6);have x0:=(K0.o.bZ (Ns.o.trans (ko.o.mono X2.o)) af).cell;have h0:=(ko.o.cell (p:=bY bl (o+ci*7)) hbl).trans g0;go_quiet (fail);have lD:=aa (below_drewN (Ns.o.trans (ko.o.mono X2.o)) nq);generalize w7.drewN nq=w8 at lD ⊢;go_wp2;exact HP.o (.returned (.tuple #[bU 6,bV cn])) _ ⟨_,by rw[HE.o],iQ.o _ lD.o⟩
       case neg=>
        have zw:decide (wv>100)=false:=(by simpa using hw);go_upto_region 30 with(go_at_call 43;refine HCw.o.mono ?_;rintro e w7 ⟨rfl,nE⟩;have ko:=aa (eA.o.trans (nE.mono eA.o.size));clear nE x6);have x0:=(K0.o.bZ (Ns.o.trans (ko.o.mono X2.o)) af).cell;have h0:=(ko.o.cell (p:=bY bl (o+ci*7)) hbl).trans g0;have HM7:=aa (HM.o.bZ ko.o HM.o.lt);have hkm:k<maxLen:=aH;go_wp2_with (refine rK _ rfl _ _ _ _ rfl 3 underlying97 gw k _ rfl HM7.o hkm cn (bU wv) rfl rfl Nw.o ?_;intro w8 hM8 VL);have Ru:=aa (show fP w8 gw (k+1) (wV fun nm=>if nm=cn then some wv else W nm) by
         have e:(fun k'=>if k'=cn then some (bU wv)else wV W k')=wV fun nm=>if nm=cn then some wv else W nm:=by
          funext nm;unfold wV;by_cases h:nm=cn<;>simp[h]
         rw[e]at hM8;exact hM8)
        have HW8:=aa (show WOK fun nm=>if nm=cn then some wv else W nm from fun nm v h=>by
         dsimp only at h;by_cases e:nm=cn
         (·rw[if_pos e]at h;injection h with h;have:=HWr.o;omega);rw[if_neg e]at h;exact HW.o nm v h)
        have Mb:=aa (show Dq (XE s.funcs) s.cells (fun _=>none) ol=Dq (XE s.funcs) s.cells (fun nm=>if nm=cn then some wv else W nm) (ol.drop (k+1)) by rw[HA.o,Nj.o,decide_eq_false (show ¬100<wv by omega)];rfl);have lD:=aa (show Below gw w9 w8 from(HBu.o.trans (ko.o.mono (Nat.le_of_lt HM.o.lt))).grown VL (aaC WX.o (aaC HBu.o.size ko.o.size)) (fun j e=>by injection e with e;omega));clear hM8 VL hw;go_wp2;go_roundw;(case rel=>exact⟨k+1,_,by omega,rfl,HW8,Ru,Mb,lD⟩);case measure=>simp[intOf];omega)
     case neg=>
      have HE:=aa (show q=0 by rw[HR.o,HA.o,List.drop_eq_nil_of_le (by have:=Dl.o;omega),Dq];rfl);go_wp2;exact HP.o (.returned (.tuple #[bU 0,bV ⟨#[]⟩])) _ ⟨_,by rw[HE.o],iQ.o _ Ns.o⟩)
end Go.Proofs.YtfppbjfnllhgcaaGreat
