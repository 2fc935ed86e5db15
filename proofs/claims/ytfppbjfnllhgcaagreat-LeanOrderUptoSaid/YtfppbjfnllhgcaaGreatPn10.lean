/- Parts of the proof, packed (LwE to ShelfS); each theorem bears its own conditions. -/
import Derived.Shelf.SlSortCmp.WholeK
import Derived.Ground.SlsfProg
import Derived.Test.YtfppbjfnllhgcaaGreatPn09
set_option linter.unusedVariables false
set_option linter.unusedSimpArgs false
set_option maxRecDepth 100000
set_option maxHeartbeats 8000000
open Go.Proofs.Tryz
open Go.Lib renaming hid → aa
open Nat renaming le_refl→aaB,le_trans→aaC,zero_le→aaG
open Go.World renaming size_alloc→aaI
open List renaming getElem_mem→aan,length_append→aao,mem_singleton→aau,take_of_length_le→aax,mem_cons→aas,mem_append→aar,getD_cons_zero→aal,getD_cons_succ→aak,take_succ_eq_append_getElem→aaz,drop_eq_getElem_cons→aah,length_take→aaq
open Go.RowKit.Below renaming refl→aaf
theorem aP {p:Prop} (h:p:=by have:=HO.o;have:=xO.o;have:=HB.o.size;omega):p:=h
theorem aX {p:Prop} (h:p:=by rw[hz];have:=HO.o;have:=xO.o;have:=HB.o.size;omega):p:=h
theorem aG {p:Prop} (h:p:=by first|rfl|(go_frame;rfl)):p:=h
theorem aU {p:Prop} (h:p:=by rw[beq_eq_false_iff_ne];omega):p:=h
theorem bz {p:Prop} (h:p:=by rw[World.size_alloc];have:=gW.o.size;omega):p:=h
theorem aY {p:Prop} (h:p:=by simp only[World.size_alloc];have:=gW.o.size;omega):p:=h
namespace Go.Proofs.YtfppbjfnllhgcaaGreat
section
open Go Go.RowKit Bg Go.Proofs Sh Kb
theorem MI:(Tryz.prog.info? 31).map (·.size)=some 9:=by kernel_rfl
theorem Xo {α:Type} {R:Rel α} {T g:Nat} {w:World} {S:Nat→Prop} {cs ds:List Value} {x y:α} (h:cN w g T (cs++ds)) (h1:cs.length=R.k) (h2:ds.length=R.k) (hr:R.is w (fun b=>S b∧some b≠some g) cs x) (hq:R.is w (fun b=>S b∧some b≠some g) ds y):dM R T g w S (bW (bY g 0) 2 2) [x,y]:=by
 refine⟨[cs,ds],rfl,⟨by simp[h1,h2];omega,.inr ⟨g,2,(cs++ds).toArray,rfl,aaB _,h,aaB _,by unfold maxLen;omega,by simp[h1,h2];omega,?_⟩⟩,?_,fun j c z hc hz=>?_⟩
 (·show(cs++ds).take (2*R.k)=[cs,ds].flatten;rw[aax (by rw[aao,h1,h2];omega)];simp)
 ·intro c hc;simp at hc;rcases hc with rfl|rfl
  (·exact h1);exact h2
 ·match j with
  |0=>simp at hc hz;subst hc hz;exact hr
  |1=>simp at hc hz;subst hc hz;exact hq
  |j+2=>simp at hc
def ExP (w:World) (e:Ending) (w':World):Prop:=∃ a:ki,e= .returned (.agg (dU a Ck.pW).toArray)∧ei w' Any a Ck.pW∧Below w w w'
theorem JQ (w:World):Calls prog 22 #[] w (ExP w):=by
 generalize hP:ExP w=P
 have HP:=aa (show ∀ e w',ExP w e w'→P e w' from fun e w' h=>hP▸h)
 clear hP
 go_enter func22,ntmps22
 go_upto_region 3 with fail
 obtain⟨w1,hw⟩:∃ W,W=GN w [.cells (BG) 31,.cells #[bV ⟨#[120]⟩,bV ⟨#[103,47,74]⟩] 112,.cells #[bV ⟨#[105,110]⟩,bV ⟨#[74]⟩,bV ⟨#[]⟩,bV ⟨#[97,105,114]⟩,bV ⟨#[103]⟩,bV ⟨#[]⟩] 102,.cells #[.int .i64 0,.int .i64 2] 114,.cells #[bV ⟨#[103,114,105,100]⟩,bV ⟨#[103,47,74]⟩,bW (bY (w+1+1+1) 0) 1 1] 65,.cells #[bV ⟨#[109,105,108,108]⟩,cD,bW (bY (w+1+1) 0) 2 2,bW (bY (w+1+1+1+1) 0) 1 1,cD,cD,cD,cD,cD] 31]:=⟨_,rfl⟩
 have hb0:Below w w w1:=by rw[hw];exact rA _ _ _ aac
 have hA:=fun i o h=>hw▸E9 [.cells (BG) 31,.cells #[bV ⟨#[120]⟩,bV ⟨#[103,47,74]⟩] 112,.cells #[bV ⟨#[105,110]⟩,bV ⟨#[74]⟩,bV ⟨#[]⟩,bV ⟨#[97,105,114]⟩,bV ⟨#[103]⟩,bV ⟨#[]⟩] 102,.cells #[bU 0,bU 2] 114,.cells #[bV ⟨#[103,114,105,100]⟩,bV ⟨#[103,47,74]⟩,bW (bY (w+1+1+1) 0) 1 1] 65,.cells #[bV ⟨#[109,105,108,108]⟩,cD,bW (bY (w+1+1) 0) 2 2,bW (bY (w+1+1+1+1) 0) 1 1,cD,cD,cD,cD,cD] 31] w i o h
 have k0:cN w1 (w.heap.size) 31 (BG):=hA 0 _ rfl
 have k1:cN w1 (w+1) 112 [bV ⟨#[120]⟩,bV ⟨#[103,47,74]⟩]:=hA 1 _ rfl
 have k2:cN w1 (w+1+1) 102 [bV ⟨#[105,110]⟩,bV ⟨#[74]⟩,bV ⟨#[]⟩,bV ⟨#[97,105,114]⟩,bV ⟨#[103]⟩,bV ⟨#[]⟩]:=hA 2 _ rfl
 have k3:cN w1 (w+1+1+1) 114 [bU 0,bU 2]:=hA 3 _ rfl
 have k4:cN w1 (w+1+1+1+1) 65 [bV ⟨#[103,114,105,100]⟩,bV ⟨#[103,47,74]⟩,bW (bY (w+1+1+1) 0) 1 1]:=hA 4 _ rfl
 have k5:cN w1 (w+1+1+1+1+1) 31 [bV ⟨#[109,105,108,108]⟩,cD,bW (bY (w+1+1) 0) 2 2,bW (bY (w+1+1+1+1) 0) 1 1,cD,cD,cD,cD,cD]:=hA 5 _ rfl
 rw[show((((((w.alloc (.cells (BG) 31)).alloc (.cells #[bV ⟨#[120]⟩,bV ⟨#[103,47,74]⟩] 112)).alloc (.cells #[bV ⟨#[105,110]⟩,bV ⟨#[74]⟩,bV ⟨#[]⟩,bV ⟨#[97,105,114]⟩,bV ⟨#[103]⟩,bV ⟨#[]⟩] 102)).alloc (.cells #[bU 0,bU 2] 114)).alloc (.cells #[bV ⟨#[103,114,105,100]⟩,bV ⟨#[103,47,74]⟩,bW (bY (w+1+1+1) 0) 1 1] 65)).alloc (.cells #[bV ⟨#[109,105,108,108]⟩,cD,bW (bY (w+1+1) 0) 2 2,bW (bY (w+1+1+1+1) 0) 1 1,cD,cD,cD,cD,cD] 31))=w1 from hw.symm]
 clear hA hw
 obtain⟨p5,hp5⟩:∃ p,p=w.heap.size+1+1+1+1+1:=⟨_,rfl⟩
 obtain⟨p4,hp4⟩:∃ p,p=w.heap.size+1+1+1+1:=⟨_,rfl⟩
 obtain⟨p3,hp3⟩:∃ p,p=w.heap.size+1+1+1:=⟨_,rfl⟩
 obtain⟨p2,hp2⟩:∃ p,p=w.heap.size+1+1:=⟨_,rfl⟩
 obtain⟨p1,hp1⟩:∃ p,p=w.heap.size+1:=⟨_,rfl⟩
 obtain⟨p0,KA⟩:∃ p,p=w.heap.size:=⟨_,rfl⟩
 simp only[← hp5]at k0 k1 k2 k3 k4 k5 ⊢
 simp only[← hp4]at k0 k1 k2 k3 k4 k5 ⊢
 simp only[← hp3]at k0 k1 k2 k3 k4 k5 ⊢
 simp only[← hp2]at k0 k1 k2 k3 k4 k5 ⊢
 simp only[← hp1]at k0 k1 k2 k3 k4 k5 ⊢
 rw[← KA]at k0 ⊢
 have HO:=aa (show p0<p1∧p1<p2∧p2<p3∧p3<p4∧p4<p5∧p5<w1.heap.size∧w.heap.size≤p0 from by have:=k5.lt;omega)
 have gY:=aa hb0
 have HS:=aa (show ∀ W:World,w1.heap.size≤W→∀ b,W.heap.size≤b→b≠p0∧b≠p5 from fun W h b hb=>by have:=HO.o;omega)
 have SP:=aa (show Sq jo w1 (fun b=>b≠p0∧b≠p5) (bY p1 0) [⟨⟨#[120]⟩,⟨#[103,47,74]⟩⟩]from Sq.Xm (R:=jo) k1 (by have:=HO.o;omega) rfl)
 have SI:=aa (show Sq qM w1 (fun b=>b≠p0∧b≠p5) (bY p2 0) Ck.pW.inputs from Sq.Xn (R:=qM) (cs:=[bV ⟨#[105,110]⟩,bV ⟨#[74]⟩,bV ⟨#[]⟩]) (ds:=[bV ⟨#[97,105,114]⟩,bV ⟨#[103]⟩,bV ⟨#[]⟩]) k2 (by have:=HO.o;omega) rfl rfl)
 have ST:=aa (show Sq mz w1 (fun b=>b≠p0∧b≠p5) (bY p4 0) Ck.pW.tables from Sq.Xm (R:=mz) k4 (by have:=HO.o;omega) ⟨_,_,rfl,Sq.Xm (R:=Lc) k3 (by have:=HO.o;omega) rfl⟩)
 have K0:=aa k0
 have K5:=aa k5
 clear k0 k1 k2 k3 k4 k5 KA hp1 hp2 hp3 hp4 hp5 hb0
 have HB:=aa (aaf w1 w1)
 go_wp2_with fail
 refine(oK _ _).mono ?_
 rintro e w2 ⟨rfl,hb⟩
 replace HB:=aa (HB.o.trans (hb.mono HB.o.size))
 clear hb
 go_wp2_with fail
 refine(oJ 2 _ _).mono ?_
 rintro e w3 ⟨rfl,hb⟩
 replace HB:=aa (HB.o.trans (hb.mono HB.o.size))
 clear hb
 go_wp2_with fail
 refine(ug (S:=fun b=>b≠p0∧b≠p5) (HS.o _ HB.o.size) rK rK).mono ?_
 rintro e w4 ⟨A16,c16,rfl,h,hb⟩
 replace HB:=aa (HB.o.trans (hb.mono HB.o.size))
 clear hb
 have Q8:=aa h
 clear h
 go_wp2_with fail
 refine(oK _ _).mono ?_
 rintro e w5 ⟨rfl,hb⟩
 replace HB:=aa (HB.o.trans (hb.mono HB.o.size))
 replace Q8:=aa (dh.keep Q8.o (cB.cA hb))
 clear hb
 go_wp2_with fail
 refine(Df (S:=fun b=>b≠p0∧b≠p5) (HS.o _ HB.o.size) rK).mono ?_
 rintro e w6 ⟨A20,c20,rfl,h,hb⟩
 replace HB:=aa (HB.o.trans (hb.mono HB.o.size))
 replace Q8:=aa (dh.keep Q8.o (cB.cA hb))
 clear hb
 have Yw:=aa h
 clear h
 go_wp2_with fail
 refine(oJ 0 _ _).mono ?_
 rintro e w7 ⟨rfl,hb⟩
 replace HB:=aa (HB.o.trans (hb.mono HB.o.size))
 replace Q8:=aa (dh.keep Q8.o (cB.cA hb))
 replace Yw:=aa (dh.keep Yw.o (cB.cA hb))
 clear hb
 go_wp2_with fail
 refine(Df (S:=fun b=>b≠p0∧b≠p5) (HS.o _ HB.o.size) rK).mono ?_
 rintro e w8 ⟨A22,c22,rfl,h,hb⟩
 replace HB:=aa (HB.o.trans (hb.mono HB.o.size))
 replace Q8:=aa (dh.keep Q8.o (cB.cA hb))
 replace Yw:=aa (dh.keep Yw.o (cB.cA hb))
 clear hb
 have E22:=aa h
 clear h
 go_wp2_with fail
 refine(ug (S:=fun b=>b≠p0∧b≠p5) (HS.o _ HB.o.size) Yw.o E22.o).mono ?_
 rintro e w9 ⟨A23,c23,rfl,h,hb⟩
 replace HB:=aa (HB.o.trans (hb.mono HB.o.size))
 replace Q8:=aa (dh.keep Q8.o (cB.cA hb))
 replace Yw:=aa (dh.keep Yw.o (cB.cA hb))
 replace E22:=aa (dh.keep E22.o (cB.cA hb))
 clear hb
 clear Yw
 clear E22
 have E23:=aa h
 clear h
 have xO:=aa (show p5<w1.heap.size from HO.o.2.2.2.2.2.1)
 have k5:=K5.o.bZ HB.o xO.o
 have x5:=k5.cell
 have f5:=k5.frozen
 have v5:p5<w9.heap.size:=k5.lt
 go_upto_region 4 with fail
 clear x5 f5
 obtain⟨wb,hw⟩:∃ W,W=(w9.setCell (bY p5 4) (bW (bY w9 0) 2 2)).alloc (.cells #[bV ⟨#[102]⟩,bW (bY p1 0) 1 1,.int .i64 8,.int .i64 0,bV ⟨#[]⟩,bV ⟨#[]⟩,bW A16 2 c16,bV ⟨#[103]⟩,bW (bY p1 0) 1 1,.int .i64 6,.int .i64 0,bV ⟨#[]⟩,bV ⟨#[]⟩,bW A23 2 c23] 69):=⟨_,rfl⟩
 rw[← hw]
 have hz:(w9.setCell (bY p5 4) (bW (bY w9 0) 2 2)).heap.size=w9.heap.size:=by simp[World.setCell]
 have hg:w9.grownBy (w9.setCell (bY p5 4) (bW (bY w9 0) 2 2)) (some p5):=fF (World.grownBy.refl w9 (some p5)) 4 _
 have hba:Below (w9.setCell (bY p5 4) (bW (bY w9 0) 2 2)).heap.size (w9.setCell (bY p5 4) (bW (bY w9 0) 2 2)) wb:=by rw[hw];exact cS _
 have kf:cN wb w9 69 ([bV ⟨#[102]⟩,bW (bY p1 0) 1 1,bU 8,bU 0,bV ⟨#[]⟩,bV ⟨#[]⟩,bW A16 2 c16]++[bV ⟨#[103]⟩,bW (bY p1 0) 1 1,bU 6,bU 0,bV ⟨#[]⟩,bV ⟨#[]⟩,bW A23 2 c23]):=by have:=heap_alloc_new (w9.setCell (bY p5 4) (bW (bY w9 0) 2 2)) (.cells #[bV ⟨#[102]⟩,bW (bY p1 0) 1 1,bU 8,bU 0,bV ⟨#[]⟩,bV ⟨#[]⟩,bW A16 2 c16,bV ⟨#[103]⟩,bW (bY p1 0) 1 1,bU 6,bU 0,bV ⟨#[]⟩,bV ⟨#[]⟩,bW A23 2 c23] 69);rw[hz, ← hw]at this;exact this
 have k5n:cN wb p5 31 [bV ⟨#[109,105,108,108]⟩,cD,bW (bY p2 0) 2 2,bW (bY p4 0) 1 1,bW (bY w9 0) 2 2,cD,cD,cD,cD]:=(show cN (w9.setCell (bY p5 4) (bW (bY w9 0) 2 2)) p5 31 [bV ⟨#[109,105,108,108]⟩,cD,bW (bY p2 0) 2 2,bW (bY p4 0) 1 1,bW (bY w9 0) 2 2,cD,cD,cD,cD]from k5.ez 4 _).bZ hba (by rw[hz];exact v5)
 have k0n:cN wb p0 31 (BG):=(jR hg (fun e=>by injection e with e;have:=HO.o;have:=xO.o;have:=HB.o.size;omega) (K0.o.bZ HB.o aP)).bZ hba aX
 have kk:cB (fun b=>b≠p0∧b≠p5) w9 wb:=(cB.fB hg fun b hb e=>by injection e with e;exact hb.2 e).trans (cB.cA hba)
 have hsz:w9.heap.size<wb:=kf.lt
 have Dh:=aa (show Below w w wb from(cC (gY.o.trans (HB.o.mono gY.o.size)) hg aP aP).trans (hba.mono aX))
 have xM:=HB.o.size
 replace SP:=aa ((SP.o.bZ HB.o).keep kk)
 replace SI:=aa ((SI.o.bZ HB.o).keep kk)
 replace ST:=aa ((ST.o.bZ HB.o).keep kk)
 have SF:=aa (show Sq gR wb (fun b=>b≠p0∧b≠p5) (bY w9 0) Ck.pW.funcs from Sq.Xn (R:=gR) (cs:=[bV ⟨#[102]⟩,bW (bY p1 0) 1 1,bU 8,bU 0,bV ⟨#[]⟩,bV ⟨#[]⟩,bW A16 2 c16]) (ds:=[bV ⟨#[103]⟩,bW (bY p1 0) 1 1,bU 6,bU 0,bV ⟨#[]⟩,bV ⟨#[]⟩,bW A23 2 c23]) kf (by have:=HO.o;omega) ⟨_,1,_,rfl,SP.o,dh.keep Q8.o kk⟩ ⟨_,1,_,rfl,SP.o,dh.keep E23.o kk⟩)
 clear gY HB K5 K0
 replace HS:=aa (fun(W:World) (h:wb.heap.size≤W)=>HS.o W af)
 have gY:=Dh
 have HB:=aa (aaf wb wb)
 obtain⟨gf,hgg⟩:∃ g,g=w9.heap.size:=⟨_,rfl⟩
 have HLgf:=aa (show p5<gf∧gf<wb.heap.size by have:=HO.o;omega)
 rw[← hgg]at SF k5n ⊢
 have K5:=aa k5n
 have K0:=aa k0n
 clear k5n k0n k5 kf kk hba hg hz hw hsz xM v5 hgg Dh Q8 E23 SP xO
 have xO:=aa (show p5<wb.heap.size by have:=HLgf.o;omega)
 go_wp2_with fail
 refine(oJ 3 _ _).mono ?_
 rintro e w10 ⟨rfl,hb⟩
 replace HB:=aa (HB.o.trans (hb.mono HB.o.size))
 clear hb
 go_wp2_with fail
 refine(oJ 1 _ _).mono ?_
 rintro e w11 ⟨rfl,hb⟩
 replace HB:=aa (HB.o.trans (hb.mono HB.o.size))
 clear hb
 go_wp2_with fail
 refine(Df (S:=fun b=>b≠p0∧b≠p5) (HS.o _ HB.o.size) rK).mono ?_
 rintro e P7 ⟨A30,c30,rfl,h,hb⟩
 replace HB:=aa (HB.o.trans (hb.mono HB.o.size))
 clear hb
 have E30:=aa h
 clear h
 go_wp2_with fail
 refine(oK _ _).mono ?_
 rintro e w13 ⟨rfl,hb⟩
 replace HB:=aa (HB.o.trans (hb.mono HB.o.size))
 replace E30:=aa (dh.keep E30.o (cB.cA hb))
 clear hb
 go_wp2_with fail
 refine(ug (S:=fun b=>b≠p0∧b≠p5) (HS.o _ HB.o.size) E30.o rK).mono ?_
 rintro e pU ⟨A32,c32,rfl,h,hb⟩
 replace HB:=aa (HB.o.trans (hb.mono HB.o.size))
 replace E30:=aa (dh.keep E30.o (cB.cA hb))
 clear hb
 clear E30
 have E32:=aa h
 clear h
 have k5:=K5.o.bZ HB.o xO.o
 have x5:=k5.cell
 have f5:=k5.frozen
 have v5:p5<pU.heap.size:=k5.lt
 go_upto_region 5 with fail
 clear x5 f5
 obtain⟨wc,hw⟩:∃ W,W=(pU.setCell (bY p5 5) (bW (bY pU 0) 2 2)).alloc (.cells #[bV ⟨#[97]⟩,bV ⟨#[]⟩,.int .i64 0,.int .i64 3,bV ⟨#[]⟩,bV ⟨#[]⟩,cD,bV ⟨#[98]⟩,bV ⟨#[103]⟩,.int .i64 8,.int .i64 0,bV ⟨#[]⟩,bV ⟨#[]⟩,bW A32 2 c32] 49):=⟨_,rfl⟩
 rw[← hw]
 have hz:(pU.setCell (bY p5 5) (bW (bY pU 0) 2 2)).heap.size=pU.heap.size:=by simp[World.setCell]
 have hg:pU.grownBy (pU.setCell (bY p5 5) (bW (bY pU 0) 2 2)) (some p5):=fF (World.grownBy.refl pU (some p5)) 5 _
 have hba:Below (pU.setCell (bY p5 5) (bW (bY pU 0) 2 2)).heap.size (pU.setCell (bY p5 5) (bW (bY pU 0) 2 2)) wc:=by rw[hw];exact cS _
 have kf:cN wc pU 49 ([bV ⟨#[97]⟩,bV ⟨#[]⟩,bU 0,bU 3,bV ⟨#[]⟩,bV ⟨#[]⟩,cD]++[bV ⟨#[98]⟩,bV ⟨#[103]⟩,bU 8,bU 0,bV ⟨#[]⟩,bV ⟨#[]⟩,bW A32 2 c32]):=by have:=heap_alloc_new (pU.setCell (bY p5 5) (bW (bY pU 0) 2 2)) (.cells #[bV ⟨#[97]⟩,bV ⟨#[]⟩,bU 0,bU 3,bV ⟨#[]⟩,bV ⟨#[]⟩,cD,bV ⟨#[98]⟩,bV ⟨#[103]⟩,bU 8,bU 0,bV ⟨#[]⟩,bV ⟨#[]⟩,bW A32 2 c32] 49);rw[hz, ← hw]at this;exact this
 have k5n:cN wc p5 31 [bV ⟨#[109,105,108,108]⟩,cD,bW (bY p2 0) 2 2,bW (bY p4 0) 1 1,bW (bY gf 0) 2 2,bW (bY pU 0) 2 2,cD,cD,cD]:=(show cN (pU.setCell (bY p5 5) (bW (bY pU 0) 2 2)) p5 31 [bV ⟨#[109,105,108,108]⟩,cD,bW (bY p2 0) 2 2,bW (bY p4 0) 1 1,bW (bY gf 0) 2 2,bW (bY pU 0) 2 2,cD,cD,cD]from k5.ez 5 _).bZ hba (by rw[hz];exact v5)
 have k0n:cN wc p0 31 (BG):=(jR hg (fun e=>by injection e with e;have:=HO.o;have:=xO.o;have:=HB.o.size;omega) (K0.o.bZ HB.o aP)).bZ hba aX
 have kk:cB (fun b=>b≠p0∧b≠p5) pU wc:=(cB.fB hg fun b hb e=>by injection e with e;exact hb.2 e).trans (cB.cA hba)
 have hsz:pU.heap.size<wc:=kf.lt
 have Dh:=aa (show Below w w wc from(cC (gY.o.trans (HB.o.mono gY.o.size)) hg aP aP).trans (hba.mono aX))
 have xM:=HB.o.size
 have kk2:cB (fun b=>(b≠p0∧b≠p5)∧some b≠some pU.heap.size) pU wc:=⟨kk.1,fun b hb h=>kk.2 b hb h.1⟩
 replace SI:=aa (((SI.o.bZ HB.o).mono (S':=fun b=>(b≠p0∧b≠p5)∧some b≠some pU.heap.size) fun b hb h=>⟨h,fun e=>by injection e with e;omega⟩).keep kk2)
 replace ST:=aa (((ST.o.bZ HB.o).mono (S':=fun b=>(b≠p0∧b≠p5)∧some b≠some pU.heap.size) fun b hb h=>⟨h,fun e=>by injection e with e;omega⟩).keep kk2)
 replace SF:=aa (((SF.o.bZ HB.o).mono (S':=fun b=>(b≠p0∧b≠p5)∧some b≠some pU.heap.size) fun b hb h=>⟨h,fun e=>by injection e with e;omega⟩).keep kk2)
 have OC:=aa (show dM mX 49 pU.heap.size wc (fun b=>b≠p0∧b≠p5) (bW (bY pU 0) 2 2) [⟨⟨#[97]⟩,⟨#[]⟩,.mk 0 3 ⟨#[]⟩ ⟨#[]⟩ []⟩,⟨⟨#[98]⟩,⟨#[103]⟩,.mk 8 0 ⟨#[]⟩ ⟨#[]⟩ [.mk 3 0 ⟨#[]⟩ ⟨#[103]⟩ [.mk 0 1 ⟨#[103,47,74]⟩ ⟨#[]⟩ []],.mk 1 0 ⟨#[]⟩ ⟨#[105,110]⟩ []]⟩]from Xo (R:=mX) (cs:=[bV ⟨#[97]⟩,bV ⟨#[]⟩,bU 0,bU 3,bV ⟨#[]⟩,bV ⟨#[]⟩,cD]) (ds:=[bV ⟨#[98]⟩,bV ⟨#[103]⟩,bU 8,bU 0,bV ⟨#[]⟩,bV ⟨#[]⟩,bW A32 2 c32]) kf rfl rfl ⟨_,rfl,rK⟩ ⟨_,rfl,dh.keep (dh.mono E32.o fun b hb h=>⟨h,fun e=>by injection e with e;omega⟩) kk2⟩)
 clear gY HB K5 K0
 replace HS:=aa (fun(W:World) (h:wc.heap.size≤W)=>HS.o W af)
 have gY:=Dh
 have HB:=aa (aaf wc wc)
 obtain⟨gc,hgg⟩:∃ g,g=pU.heap.size:=⟨_,rfl⟩
 have Ea:=aa (show p5<gc∧gc<wc.heap.size by have:=HO.o;omega)
 rw[← hgg]at SI ST SF OC k5n ⊢
 have K5:=aa k5n
 have K0:=aa k0n
 clear k5n k0n k5 kf kk kk2 hba hg hz hw hsz xM v5 hgg Dh E32 xO HLgf
 have xO:=aa (show p5<wc.heap.size by have:=Ea.o;omega)
 replace HB:=aa (show Below wc wc wc.drew from⟨rfl,rfl,rfl,aaB _,fun _ _=>rfl⟩)
 have Ue:=K5.o.cell 5
 have HW0:=aa (show w.heap.size≤gc by have:=Ea.o;have:=HO.o;omega)
 replace HS:=aa (show ∀ W:World,wc.heap.size≤W→∀ b,W.heap.size≤b→(b≠p0∧b≠p5)∧some b≠some gc from fun W h b hb=>⟨HS.o W h b hb,fun e=>by injection e with e;have:=Ea.o;omega⟩)
 refine dz (S:=fun w'=>b_ w' p5 5 (bW (bY gc 0) 2 2)) [0,1,7,11,14] [(0,false),(1,false),(2,true),(3,true),(4,true),(5,true),(6,true),(7,false),(8,true),(9,true),(10,true),(11,false),(12,true),(13,true),(14,false),(15,true)] ah ah au rfl ah (Ue) ?_
 refine hwr ?_
 refine hwr ?_
 refine hwt fun K hK=>?_
 go_simp
 refine(oK _ _).mono ?_
 rintro e w15 ⟨rfl,hb⟩
 replace HB:=aa (HB.o.trans (hb.mono HB.o.size))
 clear hb
 refine hK.o _ _ (HB.o.cell (p:=bY p5 5) xO.o |>.trans Ue) ?_
 clear hK K
 refine hwt fun K hK=>?_
 go_simp
 refine(oK _ _).mono ?_
 rintro e Q9 ⟨rfl,hb⟩
 replace HB:=aa (HB.o.trans (hb.mono HB.o.size))
 clear hb
 refine hK.o _ _ (HB.o.cell (p:=bY p5 5) xO.o |>.trans Ue) ?_
 clear hK K
 refine hwt fun K hK=>?_
 go_simp
 refine(oK _ _).mono ?_
 rintro e w17 ⟨rfl,hb⟩
 replace HB:=aa (HB.o.trans (hb.mono HB.o.size))
 clear hb
 refine hK.o _ _ (HB.o.cell (p:=bY p5 5) xO.o |>.trans Ue) ?_
 clear hK K
 refine hwt fun K hK=>?_
 go_simp
 refine(ug (S:=fun b=>(b≠p0∧b≠p5)∧some b≠some gc) (HS.o _ HB.o.size) rK rK).mono ?_
 rintro e w18 ⟨A41,c41,rfl,h,hb⟩
 replace HB:=aa (HB.o.trans (hb.mono HB.o.size))
 clear hb
 have E41:=aa h
 clear h
 refine hK.o _ _ (HB.o.cell (p:=bY p5 5) xO.o |>.trans Ue) ?_
 clear hK K
 refine hwt fun K hK=>?_
 go_simp
 refine(ug (S:=fun b=>(b≠p0∧b≠p5)∧some b≠some gc) (HS.o _ HB.o.size) rK E41.o).mono ?_
 rintro e w19 ⟨A42,c42,rfl,h,hb⟩
 replace HB:=aa (HB.o.trans (hb.mono HB.o.size))
 replace E41:=aa (dh.keep E41.o (cB.cA hb))
 clear hb
 clear E41
 have E42:=aa h
 clear h
 refine hK.o _ _ (HB.o.cell (p:=bY p5 5) xO.o |>.trans Ue) ?_
 clear hK K
 refine hwr ?_
 refine hwt fun K hK=>?_
 go_simp
 refine(oK _ _).mono ?_
 rintro e w20 ⟨rfl,hb⟩
 replace HB:=aa (HB.o.trans (hb.mono HB.o.size))
 replace E42:=aa (dh.keep E42.o (cB.cA hb))
 clear hb
 refine hK.o _ _ (HB.o.cell (p:=bY p5 5) xO.o |>.trans Ue) ?_
 clear hK K
 refine hwt fun K hK=>?_
 go_simp
 refine(oJ 1 _ _).mono ?_
 rintro e w21 ⟨rfl,hb⟩
 replace HB:=aa (HB.o.trans (hb.mono HB.o.size))
 replace E42:=aa (dh.keep E42.o (cB.cA hb))
 clear hb
 refine hK.o _ _ (HB.o.cell (p:=bY p5 5) xO.o |>.trans Ue) ?_
 clear hK K
 refine hwt fun K hK=>?_
 go_simp
 refine(ug (S:=fun b=>(b≠p0∧b≠p5)∧some b≠some gc) (HS.o _ HB.o.size) rK rK).mono ?_
 rintro e VC ⟨A46,c46,rfl,h,hb⟩
 replace HB:=aa (HB.o.trans (hb.mono HB.o.size))
 replace E42:=aa (dh.keep E42.o (cB.cA hb))
 clear hb
 have E46:=aa h
 clear h
 refine hK.o _ _ (HB.o.cell (p:=bY p5 5) xO.o |>.trans Ue) ?_
 clear hK K
 refine hwr ?_
 refine hwt fun K hK=>?_
 go_simp
 refine hK.o _ _ (((HB.o.alloc HB.o.size _).cell (p:=bY p5 5) xO.o).trans Ue) ?_
 clear hK K
 refine hwt fun K hK=>?_
 have kn:cN (VC.alloc (.cells #[bV ⟨#[99]⟩,bV ⟨#[103]⟩,bU 6,bU 0,bV ⟨#[]⟩,bV ⟨#[]⟩,bW A42 2 c42,bV ⟨#[100]⟩,bV ⟨#[]⟩,bU 6,bU 0,bV ⟨#[]⟩,bV ⟨#[]⟩,bW A46 2 c46] 49)) VC 49 ([bV ⟨#[99]⟩,bV ⟨#[103]⟩,bU 6,bU 0,bV ⟨#[]⟩,bV ⟨#[]⟩,bW A42 2 c42]++[bV ⟨#[100]⟩,bV ⟨#[]⟩,bU 6,bU 0,bV ⟨#[]⟩,bV ⟨#[]⟩,bW A46 2 c46]):=heap_alloc_new _ _
 have hba:Below VC VC (VC.alloc (.cells #[bV ⟨#[99]⟩,bV ⟨#[103]⟩,bU 6,bU 0,bV ⟨#[]⟩,bV ⟨#[]⟩,bW A42 2 c42,bV ⟨#[100]⟩,bV ⟨#[]⟩,bU 6,bU 0,bV ⟨#[]⟩,bV ⟨#[]⟩,bW A46 2 c46] 49)):=cS _
 have hsz:gc<VC.heap.size:=by have:=Ea.o;have:=HB.o.size;omega
 have Wu:=aaI VC (.cells #[bV ⟨#[99]⟩,bV ⟨#[103]⟩,bU 6,bU 0,bV ⟨#[]⟩,bV ⟨#[]⟩,bW A42 2 c42,bV ⟨#[100]⟩,bV ⟨#[]⟩,bU 6,bU 0,bV ⟨#[]⟩,bV ⟨#[]⟩,bW A46 2 c46] 49)
 have hN:Sq mX (VC.alloc (.cells #[bV ⟨#[99]⟩,bV ⟨#[103]⟩,bU 6,bU 0,bV ⟨#[]⟩,bV ⟨#[]⟩,bW A42 2 c42,bV ⟨#[100]⟩,bV ⟨#[]⟩,bU 6,bU 0,bV ⟨#[]⟩,bV ⟨#[]⟩,bW A46 2 c46] 49)) (fun b=>(b≠p0∧b≠p5)∧some b≠some gc) (bY VC 0) [⟨⟨#[99]⟩,⟨#[103]⟩,.mk 6 0 ⟨#[]⟩ ⟨#[]⟩ [.mk 1 0 ⟨#[]⟩ ⟨#[98]⟩ [],.mk 8 0 ⟨#[]⟩ ⟨#[]⟩ [.mk 1 0 ⟨#[]⟩ ⟨#[97]⟩ [],.mk 1 0 ⟨#[]⟩ ⟨#[97,105,114]⟩ []]]⟩,⟨⟨#[100]⟩,⟨#[]⟩,.mk 6 0 ⟨#[]⟩ ⟨#[]⟩ [.mk 1 0 ⟨#[]⟩ ⟨#[97]⟩ [],.mk 0 1 ⟨#[]⟩ ⟨#[]⟩ []]⟩]:=Sq.Xn (R:=mX) (cs:=[bV ⟨#[99]⟩,bV ⟨#[103]⟩,bU 6,bU 0,bV ⟨#[]⟩,bV ⟨#[]⟩,bW A42 2 c42]) (ds:=[bV ⟨#[100]⟩,bV ⟨#[]⟩,bU 6,bU 0,bV ⟨#[]⟩,bV ⟨#[]⟩,bW A46 2 c46]) kn ⟨by have:=HO.o;have:=Ea.o;omega,fun e=>by injection e with e;omega⟩ ⟨_,rfl,dh.keep E42.o (cB.cA hba)⟩ ⟨_,rfl,dh.keep E46.o (cB.cA hba)⟩
 have oc:=OC.o.bZ (HB.o.trans (hba.mono HB.o.size))
 refine kG (R:=mX) (S:=fun b=>b≠p0∧b≠p5) (xs:=[⟨⟨#[97]⟩,⟨#[]⟩,.mk 0 3 ⟨#[]⟩ ⟨#[]⟩ []⟩,⟨⟨#[98]⟩,⟨#[103]⟩,.mk 8 0 ⟨#[]⟩ ⟨#[]⟩ [.mk 3 0 ⟨#[]⟩ ⟨#[103]⟩ [.mk 0 1 ⟨#[103,47,74]⟩ ⟨#[]⟩ []],.mk 1 0 ⟨#[]⟩ ⟨#[105,110]⟩ []]⟩]) (ys:=[⟨⟨#[99]⟩,⟨#[103]⟩,.mk 6 0 ⟨#[]⟩ ⟨#[]⟩ [.mk 1 0 ⟨#[]⟩ ⟨#[98]⟩ [],.mk 8 0 ⟨#[]⟩ ⟨#[]⟩ [.mk 1 0 ⟨#[]⟩ ⟨#[97]⟩ [],.mk 1 0 ⟨#[]⟩ ⟨#[97,105,114]⟩ []]]⟩,⟨⟨#[100]⟩,⟨#[]⟩,.mk 6 0 ⟨#[]⟩ ⟨#[]⟩ [.mk 1 0 ⟨#[]⟩ ⟨#[97]⟩ [],.mk 0 1 ⟨#[]⟩ ⟨#[]⟩ []]⟩]) (T:=49) (t:=26) (B:=gc) (by rfl) (.tmp 37) (.tmp 48) 26 rfl (by rfl) Wy oc aG (bY VC 0) 2 2 aG rfl hN.ext ak (by rw[Wu];omega) rfl (n:=4) rfl ?_
 intro A9 c9 w9 DX HG
 have P8:=HB.o.trans (hba.mono HB.o.size)
 have k9:=aa (jR HG.o.turn (fun e=>by injection e with e;have e:p5=gc:=e;have:=Ea.o;omega) (K5.o.bZ P8 xO.o))
 have k09:=aa (jR HG.o.turn (fun e=>by injection e with e;have e:p0=gc:=e;have:=Ea.o;have:=HO.o;omega) (K0.o.bZ P8 (by have:=Ea.o;have:=HO.o;omega)))
 have Yi:cB (fun b=>(b≠p0∧b≠p5)∧some b≠some gc) wc w9:=(cB.cA P8).trans (cB.fB HG.o.turn fun b h=>h.2)
 replace SI:=aa (SI.o.keep Yi)
 replace ST:=aa (ST.o.keep Yi)
 replace SF:=aa (SF.o.keep Yi)
 have SC:=aa (HG.o.own.sq fun b _ h=>by have:=Ea.o;have:=HO.o;omega)
 replace gY:=aa ((gY.o.trans (P8.mono gY.o.size)).grown HG.o.turn (aaC gY.o.size P8.size) (fun j e=>by injection e with e;have e:gc=j:=e;have:=Ea.o;have:=HO.o;have:=HW0.o;omega))
 clear HG hN oc kn hba hsz Wu P8 Yi
 refine hK.o _ _ (k9.o.cell 5) ?_
 clear hK K
 refine hwr ?_
 refine xJ fun K hK=>?_
 have x9:=k9.o.cell
 have f9:=k9.o.frozen
 have v9:p5<w9.heap.size:=k9.o.lt
 go_simp
 refine hK.o _ _ ?_
 clear hK K
 refine fA ?_
 try go_frame
 obtain⟨wd,hw⟩:∃ W,W=w9.setCell (bY p5 5) (bW A9 4 c9):=⟨_,rfl⟩
 rw[← hw]
 have hg:w9.grownBy wd (some p5):=by rw[hw];exact fF (World.grownBy.refl w9 (some p5)) 5 _
 have K5d:=aa (show cN wd p5 31 [bV ⟨#[109,105,108,108]⟩,cD,bW (bY p2 0) 2 2,bW (bY p4 0) 1 1,bW (bY gf 0) 2 2,bW A9 4 c9,cD,cD,cD] by rw[hw];exact k9.o.ez 5 _)
 have K0d:=aa (jR hg (fun e=>by injection e with e;have:=HO.o;omega) k09.o)
 have kd:cB (fun b=>b≠p0∧b≠p5) w9 wd:=cB.fB hg fun b hb e=>by injection e with e;exact hb.2 e
 have hpw:w.heap.size≤p0∧w.heap.size≤p5:=by have:=HO.o;omega
 have lM:=aa (cC gY.o hg aac hpw.2)
 clear hw hg x9 f9 v9 k9 k09 Ue
 have x5:=K5d.o.cell
 go_wp2_with (refine cO rfl 31 _ _ rfl p0 [bV ⟨#[109,105,108,108]⟩,cD,bW (bY p2 0) 2 2,bW (bY p4 0) 1 1,bW (bY gf 0) 2 2,bW A9 4 c9,cD,cD,cD] rfl rfl 31 K0d.o MI rfl rfl ?_;intro we Ke hge)
 have z:=Ke.o.cell
 have ke:=kd.trans (cB.fB (S:=fun b=>b≠p0∧b≠p5) hge fun b hb e=>by injection e with e;exact hb.1 e)
 have yI:=cC lM.o hge aac hpw.1
 have hI:ei we Any ⟨none,0,bY p2 0,2,bY p4 0,1,bY gf 0,2,A9,c9,none,0,none,0,none,0⟩ Ck.pW:=⟨Sq.nil,((SI.o.mono fun b _ h=>h.1).keep ke).all,((ST.o.mono fun b _ h=>h.1).keep ke).all,((SF.o.mono fun b _ h=>h.1).keep ke).all,(SC.o.keep ke).all,Sq.nil,Sq.nil,Sq.nil⟩
 exact bodyPost_ret (v:= .agg #[bV ⟨#[109,105,108,108]⟩,cD,bW (bY p2 0) 2 2,bW (bY p4 0) 1 1,bW (bY gf 0) 2 2,bW A9 4 c9,cD,cD,cD]) (by simp[results,results22,go_sem,z]) rfl (HP.o _ _ ⟨_,rfl,hI,yI⟩)
end
section
open Go Go.RowKit Go.Maps Go.WideMaps Go.Proofs
section
theorem iq.put {w:World} {b n:Nat} {f:gZ→Option Value} (h:iq w b n f) (hn:n<maxLen) (t e:TypeId) (ht:Tryz.prog.underlying t=some (.map 51 e)) (k:gZ) (u:Value) (hk:h_ k):∃ w',(Instr.mapUpdate t (.map (some b)) (.agg #[bU k.1,bV k.2]) u).run prog w= .ok () w'∧iq w' b (n+1) (fun k'=>if k'=k then some u else f k')∧w.grownBy w' (some b):=by
 obtain⟨D,h1,h2,h3⟩:=h;obtain⟨w',hrun,k1,k2⟩:=h1.update n9 ht hn (nk hk) (d:= .held u) (ps:=[]) (val:=u) rfl;refine⟨w',hrun,⟨_,k1,?_,fun k' hk'=>?_⟩,k2⟩
 (·obtain⟨es,rfl⟩:=h2;exact⟨_,rfl⟩);by_cases hkk:k'=k
 ·subst hkk;simp only[if_true];refine⟨has_put_same h2 (GP k') _,fun v z h=>?_,fun z h=>?_⟩
  (·have hv:u=v:=Option.some.inj h;rw[← hv];exact atKey_put_same h2 (GP k') _ _);exact absurd h ai
 simp only[if_neg hkk];have hne:mI k'≠mI k:=fun e=>hkk (Dg hk' hk e);obtain⟨p1,p2,p3⟩:=h3 k' hk';exact⟨(has_put_other hne _).trans p1,fun v z h=>(atKey_put_other hne _ _).trans (p2 v z h),fun z h=>(atKey_put_other hne _ _).trans (p3 z h)⟩
theorem yJ (w:World) {ops:Array Oper} {rest:List Oper} {o:Oper} {a:Act} {Q:Exit→Act→World→Prop} (hg:o.guard=none) (m x v:Operand) (t:TypeId) (hop:o.op=Op.insert t m x v) (e:TypeId) (ht:Tryz.prog.underlying t=some (.map 51 e)) (b n:Nat) (f:gZ→Option Value) (hm:a.eval m= .map (some b)) (hown:iq w b n f) (hn:n<maxLen) (k:gZ) (u:Value) (hx:a.eval x= .agg #[bU k.1,bV k.2]) (hv:a.eval v=u) (hk:h_ k) (hK:∀ w',Hid (iq w' b (n+1) (fun k'=>if k'=k then some u else f k'))→w.grownBy w' (some b)→wpList prog ops Q rest (a.put o.dst undef) w'):wpList prog ops Q (o :: rest) a w:=by
 refine wpList_plain hg fun K' hK'=>?_;obtain⟨w',hrun,r1,r2⟩:=hown.put hn t e ht k u hk;unfold Oper.wp;simp[execOp,hop,hm,hx,hv,hrun,Result.andThen];exact hK' _ _ (hK w' (aa r1) r2)
theorem yK (w:World) {ops:Array Oper} {rest:List Oper} {o:Oper} {a:Act} {Q:Exit→Act→World→Prop} (hg:o.guard=none) (m x v:Operand) (t:TypeId) (hop:o.op=Op.mapUpdate t m x v) (e:TypeId) (ht:Tryz.prog.underlying t=some (.map 51 e)) (b n:Nat) (f:gZ→Option Value) (hm:a.eval m= .map (some b)) (hown:iq w b n f) (hn:n<maxLen) (k:gZ) (u:Value) (hx:a.eval x= .agg #[bU k.1,bV k.2]) (hv:a.eval v=u) (hk:h_ k) (hK:∀ w',Hid (iq w' b (n+1) (fun k'=>if k'=k then some u else f k'))→w.grownBy w' (some b)→wpList prog ops Q rest (a.put o.dst undef) w'):wpList prog ops Q (o :: rest) a w:=by
 refine wpList_plain hg fun K' hK'=>?_;obtain⟨w',hrun,r1,r2⟩:=hown.put hn t e ht k u hk;unfold Oper.wp;simp[execOp,hop,hm,hx,hv,hrun,Result.andThen];exact hK' _ _ (hK w' (aa r1) r2)
structure yM (B g o c:Nat) (w:World) (xs:List gZ):Prop where
 base:B≤g
 room:xs.length≤c
 most:c≤maxLen
 row:∃ cur:Array Value,w.heap[g]? =some (.cells cur 51 (0,0))∧o+c*2≤cur.size∧(cur.toList.drop o).take (xs.length*2)=xs.flatMap j7
theorem E_:∀ (xs:List gZ) (i c:Nat) (x:gZ) (u:Value),xs[i]? =some x→(j7 x)[c]? =some u→(xs.flatMap j7)[i*2+c]? =some u
 |[],i,c,x,u,h,_=>by simp at h
 |y :: l,0,c,x,u,h,hu=>by
  simp at h;subst h;rw[List.flatMap_cons,Nat.zero_mul,Nat.zero_add,List.getElem?_append_left (List.getElem?_eq_some_iff.1 hu).1];exact hu
 |y :: l,i+1,c,x,u,h,hu=>by
  rw[List.flatMap_cons,List.getElem?_append_right (by show 2≤_;omega)];have:=E_ l i c x u aK hu;rw[show(i+1)*2+c - (j7 y).length=i*2+c by show(i+1)*2+c - 2=_;omega];exact this
theorem P9 (xs:List gZ):(xs.flatMap j7).length=xs.length*2:=by
 induction xs with
 |nil=>rfl
 |cons x l ih=>rw[List.flatMap_cons,aao,ih,List.length_cons];show 2+_=_;omega
section
variable {B g o c:Nat} {w w':World} {xs:List gZ}
theorem yM.lt (h:yM B g o c w xs):g<w.heap.size:=by
 obtain⟨cur,h1,_⟩:=h.row;exact(Array.getElem?_eq_some_iff.1 h1).1
theorem yM.block (h:yM B g o c w xs) (hb:w'.heap[g]? =w.heap[g]?):yM B g o c w' xs:=by
 obtain⟨cur,h1,h2⟩:=h.row;exact⟨h.base,h.room,h.most,cur,hb.trans h1,h2⟩
theorem yM.bZ (h:yM B g o c w xs) {B':Nat} (hb:Below B' w w') (hg:g<B'):yM B g o c w' xs:=h.block (hb.block g hg)
theorem yM.alloc (h:yM B g o c w xs) (ob:Obj):yM B g o c (w.alloc ob) xs:=h.block (Below.heap_alloc _ _ g h.lt)
theorem yM.cell (h:yM B g o c w xs) {j:Nat} (hj:j<xs.length):b_ w g (o+j*2) (bU xs[j].1)∧b_ w g (o+j*2+1) (bV xs[j].2):=by
 obtain⟨cur,h1,h2,h3⟩:=h.row;have hk:cN w g 51 cur.toList:=h1;have e:∀ i v,(j7 xs[j])[i]? =some v→b_ w g (o+j*2+i) v:=fun i v hv=>by
  have hi:i<2:=(List.getElem?_eq_some_iff.1 hv).1;have h4:=E_ xs j i xs[j] v (List.getElem?_eq_getElem hj) hv;rw[← h3,List.getElem?_take,if_pos af,List.getElem?_drop]at h4;rw[hk.cell,show o+j*2+i=o+(j*2+i) by omega];exact h4
 exact⟨e 0 _ rfl,e 1 _ rfl⟩
theorem yM.tail {x:gZ} (h:yM B g o c w (x :: xs)):yM B g (o+2) (c - 1) w xs:=by
 have hr:=h.room;obtain⟨cur,h1,h2,h3⟩:=h.row;rw[List.length_cons]at hr h3;refine⟨h.base,by omega,by have:=h.most;omega,cur,h1,by omega,?_⟩;rw[List.flatMap_cons]at h3;have h4:=congrArg (List.drop 2) h3;rw[List.drop_append_of_le_length (by show 2≤2;omega),List.drop_take,List.drop_drop]at h4;rw[show(xs.length+1)*2 - 2=xs.length*2 by omega]at h4;rw[h4];rfl
theorem vt {P:Program} (w:World) (t ty e:TypeId) (i:TypeInfo) (ht:P.underlying t=some (.slice e)) (hi:P.info? e=some i) (g o sLen sCap:Nat) (cur:Array Value) (hg:w.heap[g]? =some (.cells cur e (0,0))) (a:Addr) (m c:Nat) (news:List Value) (hl:news.length=m*i.size) (hnews:∀ j u,news[j]? =some u→w.cell? (a.add j)=some u) (h1:∀ u∈news,u.oneCell'=true) (hroom:sLen+m≤sCap) (hfit:o+sLen*i.size+news.length≤cur.size):(Builtin.append_ #[t,t] ty #[bW (bY g o) sLen sCap,bW (some a) m c]).run P w= .ok (bW (bY g o) (sLen+m) sCap) (w.setRow g (cur.toList.take (o+sLen*i.size)++news++cur.toList.drop (o+sLen*i.size+news.length)).toArray):=by
 have hf:=run_firstCells_some (P:=P) w i.size m a m c news hl hnews;have hst:=run_storeCells_at P g (o+sLen*i.size) e news 0 cur w hg (by simpa using hfit) h1;simp only[Nat.add_zero]at hst;have ha:(bY g o:Addr).add (sLen*i.size)=bY g (o+sLen*i.size):=(by rw[Addr.add_lit]);simp[Builtin.append_,run_underlying ht,sizeOf,typeInfo,hi,Builtin.lenOf,hroom,hf,ha,hst]
theorem Di (h:yM B g o c w xs) (hl:xs.length<1000000) (hB:B≤w.heap.size) (ty:TypeId) (ad:Addr) (cc:Nat) (k:Int) (nm:ByteArray) (hnews:∀ j u,[bU k,bV nm][j]? =some u→w.cell? (ad.add j)=some u):∃ g' o' c' w',(Builtin.append_ #[35,35] ty #[bW (bY g o) xs c,bW (some ad) 1 cc]).run prog w= .ok (bW (bY g' o') (xs.length+1) c') w'∧yM B g' o' c' w' (xs++[(k,nm)])∧w.grownBy w' (some g):=by
 obtain⟨i0,hi,hz0,hz1,hz2⟩:=info_parts (show(Tryz.prog.info? 51).map (fun i=>(i.zero,i.size,i.bytes))=some (some (.agg #[.int .i64 0,bV ByteArray.empty]),2,24) by kernel_rfl);have hlen:=P9 xs;obtain⟨cur,h1,h2,h3⟩:=h.row;have hr:=h.room;have hm:=h.most;(have one:∀ u∈[Value.int .i64 k,bV nm],u.oneCell'=true:=fun u hu=>by simp at hu;rcases hu with rfl|rfl<;>rfl);by_cases hc:xs.length+1≤c
 ·have hrun:=vt (P:=prog) w 35 ty 51 i0 underlying35 hi g o xs.length c cur h1 ad 1 cc [bU k,bV nm] (by rw[hz1];rfl) hnews one hc (by rw[hz1];show o+xs.length*2+2≤_;omega);rw[hz1]at hrun;have hsz:cur.toList.length=cur.size:=Array.length_toList;have hlt:(cur.toList.take (o+xs.length*2)).length=o+xs.length*2:=(by rw[aaq];omega);refine⟨g,o,c,_,hrun,⟨h.base,by rw[aao];exact hc,hm,_,setRow_heap w g cur _ 51 _ h1,?_,?_⟩,⟨rfl,rfl,rfl,by simp,fun b _ hne=>setRow_other w g b _ (fun e=>hne (by rw[e]))⟩⟩
  (·simp only[List.size_toArray,aao,hlt,List.length_drop,List.length_cons,List.length_nil];omega);rw[aao,List.flatMap_append,List.append_assoc,List.drop_append_of_le_length (by rw[hlt];omega),List.drop_take,show o+xs.length*2 - o=xs.length*2 by omega,h3];rw[show(xs.length+[(k,nm)].length)*2=(xs.flatMap j7).length+2 by rw[hlen];show(xs.length+1)*2=_;omega,List.take_append,aax af,show(xs.flatMap j7).length+2 - (xs.flatMap j7).length=2 by omega];rfl
 have holds:∀ j v,(xs.flatMap j7)[j]? =some v→w.cell? ((bY g o:Addr).add j)=some v:=fun j v hv=>by
  have hk:cN w g 51 cur.toList:=h1;(have hj:j<xs.length*2:=by have:=(List.getElem?_eq_some_iff.1 hv).1;omega);rw[← h3,List.getElem?_take,if_pos hj,List.getElem?_drop]at hv;rw[Addr.add_lit,hk.cell];exact hv
 have hrun:=run_append_grow (P:=prog) w 35 ty 51 i0 _ underlying35 hi hz0 (bY g o) xs.length c (xs.flatMap j7) (by rw[hz1];exact hlen) holds ad 1 cc [bU k,bV nm] (by rw[hz1];rfl) hnews af af (growslice_fits af (by rw[hz2];omega));have hge:=grownCap_ge w (xs.length+1) c 51;have hcm:grownCap w (xs.length+1) c 51≤maxLen:=grownCap_le_maxLen w (xs.length+1) c 51 aH;refine⟨_,_,_,_,hrun,⟨hB,by rw[aao];exact hge,hcm,_,heap_alloc_new w.drew _,?_,?_⟩,⟨rfl,rfl,rfl,by simp,fun b hb _=>heap_alloc_old w.drew _ hb⟩⟩
 (·simp only[Array.size_append,List.size_toArray,size_zeroCells,hlen,List.length_cons,List.length_nil];show 0+_≤xs.length*2+2+(_ - (xs.length+1))*2;omega);simp only[Array.toList_append,List.drop_zero,List.append_assoc,aao];rw[show(xs.length+[(k,nm)].length)*2=(xs.flatMap j7).length+2 by rw[hlen];show(xs.length+1)*2=_;omega,List.take_append,aax af,show(xs.flatMap j7).length+2 - (xs.flatMap j7).length=2 by omega,List.flatMap_append];rfl
theorem xw {ops:Array Oper} {rest:List Oper} {op:Oper} {a:Act} {Q:Exit→Act→World→Prop} (hgd:op.guard=none) (s x:Operand) (ho:op.op= .call {callee:= .builtin .append,args:=#[s,x],argTypes:=#[35,35]}) (h:yM B g o c w xs) {n:Nat} (hn:xs.length=n) (hs:a.eval s=bW (bY g o) n c) (hl:n<1000000) (hB:B≤w.heap.size) (ad:Addr) (cc:Nat) (hx:a.eval x=bW (some ad) 1 cc) (k:Int) (nm:ByteArray) (hnews:∀ j u,[bU k,bV nm][j]? =some u→w.cell? (ad.add j)=some u) (hK:∀ g' o' c' w',Hid (yM B g' o' c' w' (xs++[(k,nm)]))→w.grownBy w' (some g)→wpList prog ops Q rest (a.put op.dst (bW (bY g' o') (n+1) c')) w'):wpList prog ops Q (op :: rest) a w:=by
 subst hn;refine wpList_plain hgd fun K' hK'=>?_;obtain⟨g',o',c',w',hr,h1,h2⟩:=Di h hl hB op.type ad cc k nm hnews;unfold Oper.wp execOp;simp only[ho,resolve,invoke,builtin,Sem.run_bind,Sem.run_pure,Result.andThen_ok,List.map_toArray,List.map_cons,List.map_nil,hs,hx,hr];exact hK' _ _ (hK g' o' c' w' (aa h1) h2)
theorem yM.made (B:Nat) (w:World) (hB:B≤w.heap.size) (k:Int) (nm:ByteArray):yM B w 0 1 (w.alloc (.cells #[bU k,bV nm] 51)) [(k,nm)]:=
 ⟨hB,aaB _,by unfold maxLen;omega,_,heap_alloc_new w _,aaB _,rfl⟩
end
end
end
open Go Go.RowKit Bg Go.Proofs Sh Kb Ln
section
theorem MJ {σ:Type} {R:σ→Prop} (m:σ→Nat):∀ (n:Nat) (s:σ),m s=n→R s→∃ k,(∃ s,R s∧m s=k)∧∀ s,R s→k≤m s:=by
 intro n;induction n using Nat.strongRecOn with
 |_ n ih=>
  intro s hs hR;by_cases h:∃ s',R s'∧m s'<n
  (·obtain⟨s',h1,h2⟩:=h;exact ih _ h2 s' rfl h1);exact⟨n,⟨s,hR,hs⟩,fun s' h1=>Nat.le_of_not_lt fun h2=>h ⟨s',h1,h2⟩⟩
open Classical in
noncomputable def Uf {σ:Type} (R:σ→Value→World→Prop) (m:σ→Nat) (v:Value) (w:World):Nat:=if h:∃ k,(∃ s,R s v w∧m s=k)∧∀ s,R s v w→k≤m s then Classical.choose h else 0
def Best {σ:Type} (R:σ→Value→World→Prop) (m:σ→Nat) (v:Value) (w:World):Prop:=∃ s,R s v w∧m s=Uf R m v w
theorem GQ {σ:Type} {R:σ→Value→World→Prop} (m:σ→Nat) {v:Value} {w:World} {s:σ} (h:R s v w):Best R m v w∧Uf R m v w≤m s:=by
 have he:∃ k,(∃ s,R s v w∧m s=k)∧∀ s,R s v w→k≤m s:=MJ (R:=fun s=>R s v w) m _ s rfl h;have hs:=Classical.choose_spec he;have e:Uf R m v w=Classical.choose he:=(by unfold Uf;rw[dif_pos he]);refine⟨?_,by rw[e];exact hs.2 s h⟩;obtain⟨s',h1,h2⟩:=hs.1;exact⟨s',h1,by rw[e];exact h2⟩
theorem Fa (y:eX):∀ (l L:List eX),kB L (l++[y])=if y∈kB L l then kB L l else kB L l++[y]
 |[],L=>rfl
 |x :: l,L=>by
  rw[List.cons_append,kB,Fa y l];rfl
open Classical in
noncomputable def lS (L:List eX) (z:eX):Option Value:=if z∈L then some (.bool true)else none
theorem P_ (L:List eX) (y:eX):(fun k'=>if k'=y then some (Value.bool true)else lS L k')=lS (L++[y]):=by
 funext k;unfold lS;by_cases h:k=y
 (·subst h;simp);by_cases h2:k∈L<;>simp[h,h2]
theorem Ug {B g o c:Nat} {w:World} {x:eX} {xs:List eX} (h:yM B g o c w (x :: xs)):∃ o',(if c=1 then some (bY g o:Addr)else (bY g (o+2)))=bY g o'∧yM B g o' (c - 1) w xs:=by
 by_cases hc:c=1
 (·subst hc;have hr:=h.room;rw[List.length_cons]at hr;have hx:xs=[]:=List.eq_nil_of_length_eq_zero af;subst hx;obtain⟨cur,h1,h2,h3⟩:=h.row;exact⟨o,if_pos rfl,h.base,aaB _,aaG _,cur,h1,by omega,by simp⟩);exact⟨o+2,if_neg hc,h.tail⟩
def Dj (w:World) (gm:Nat) (gg:eX→List eX):Prop:=∃ n G,iq w gm n G∧∀ z,h_ z→∃ A c,(G z).getD cD=bW A (gg z).length c∧Sq eA w Any A (gg z)
theorem Dj.bZ {w w':World} {gm:Nat} {gg:eX→List eX} (h:Dj w gm gg) (hb:Below w w w'):Dj w' gm gg:=by
 obtain⟨n,G,h1,h2⟩:=h;refine⟨n,G,h1.bZ hb h1.lt,fun z hz=>?_⟩;obtain⟨A,c,e,hs⟩:=h2 z hz;exact⟨A,c,e,hs.bZ hb⟩
theorem Dj.look {w:World} {gm:Nat} {gg:eX→List eX} (h:Dj w gm gg) {z:eX} (hz:h_ z):∃ A c,(Instr.lookup 71 (.map (some gm)) (.agg #[bU z.1,bV z.2]) false).run prog w= .ok (bW A (gg z).length c) w∧Sq eA w Any A (gg z):=by
 obtain⟨n,G,h1,h2⟩:=h;obtain⟨A,c,e,hs⟩:=h2 z hz;refine⟨A,c,?_,hs⟩;rw[h1.look underlying71 (y:=bW none 0 0) ah hz,e]
theorem Dj.look2 {w:World} {gm:Nat} {gg:eX→List eX} (h:Dj w gm gg) {z:eX} (hz:h_ z):∃ A c,(∀ w',Below w w w'→(Instr.lookup 71 (.map (some gm)) (.agg #[bU z.1,bV z.2]) false).run prog w'= .ok (bW A (gg z).length c) w')∧Sq eA w Any A (gg z):=by
 obtain⟨n,G,h1,h2⟩:=h;obtain⟨A,c,e,hs⟩:=h2 z hz;refine⟨A,c,fun w' hb=>?_,hs⟩;rw[(h1.bZ hb h1.lt).look underlying71 (y:=bW none 0 0) ah hz,e]
theorem yO {w:World} {b n:Nat} {L:List eX} (h:iq w b n (lS L)) {z:eX} (hz:h_ z) {r:Bool} (hr:r=true↔z∈L):(Instr.lookup 78 (.map (some b)) (.agg #[bU z.1,bV z.2]) false).run prog w= .ok (.bool r) w:=by
 rw[h.look underlying78 (y:= .bool false) ah hz];unfold lS;by_cases hm:z∈L
 (·rw[if_pos hm,hr.2 hm];rfl);(have:r=false:=by cases r;rfl;exact absurd (hr.1 rfl) hm);rw[if_neg hm,this];rfl
theorem Eb (w:World) (x y:Value) (t:TypeId):∀ j u,[x,y][j]? =some u→(w.alloc (.cells #[x,y] t)).cell? ((bY w 0:Addr).add j)=some u:=by
 intro j u hj;have hk:cN (w.alloc (.cells #[x,y] t)) w t [x,y]:=heap_alloc_new w _;rw[Addr.add_lit,Nat.zero_add,hk.cell];exact hj
def FrmR (gg:eX→List eX) (U:List eX) (a:eX) (p b:Nat) (w:World) (s:Nat×List eX) (v:Value) (wr:World):Prop:=
 ∃ g o c m,v=bW (bY g o) m c∧Hid ((s.2.drop s.1).length=m)∧Hid (yM (p+2) g o c wr (s.2.drop s.1))∧Hid (iq wr b s.2.length (lS s.2))∧Hid (Inv gg a s.1 s.2)∧Hid (s.1≤s.2.length)∧Hid (PC gg (U.length - s.1) s.1 s.2=from_ gg U.length a)∧Hid (Below w w wr)∧Hid (p+2≤wr.heap.size)
def JR (L:List eX) (w:World) (e:Ending) (w':World):Prop:=∃ b,e= .returned (.map (some b))∧iq w' b L.length (lS L)∧w.heap.size≤b∧Below w w w'
theorem Fb (gm:Nat) (gg:eX→List eX) (U:List eX) (hU:∀ x,∀ y∈gg x,y∈U) (hUk:∀ x∈U,h_ x) (hUl:U.length≤100000) (hrow:∀ x,(gg x).length≤1000000) (a1:Int) (a2:ByteArray) (ha:(a1,a2)∈U) (w:World) (hG:Dj w gm gg):Calls prog 29 #[.map (some gm),.agg #[bU a1,bV a2]] w (JR (from_ gg U.length (a1,a2)) w):=by
 generalize hP:JR (from_ gg U.length (a1,a2)) w=P
 have HP:=aa (show ∀ e w',JR (from_ gg U.length (a1,a2)) w e w'→P e w' from fun e w' h=>hP▸h)
 clear hP
 have hka:h_ (a1,a2):=hUk _ ha
 have HSub:=aa (fun k L (I:Inv gg (a1,a2) k L)=>I.sub ha hU)
 have HUk:=aa hUk
 have HU:=aa hU
 have HUl:=aa hUl
 have rP:=aa hrow
 have HG:=aa hG
 clear ha hU hUk hUl hrow hG
 go_enter func29,ntmps29
 go_upto_region 1 with fail
 have K0:=aa (show cN (w.alloc (.cells #[bU a1,bV a2] 51)) w 51 [bU a1,bV a2]from heap_alloc_new w _)
 have HB:=aa ((aaf w w).alloc aac (.cells #[bU a1,bV a2] 51))
 have DD:=aa (aaI w (.cells #[bU a1,bV a2] 51))
 generalize w.alloc (.cells #[bU a1,bV a2] 51)=w1 at K0 HB DD ⊢
 have x0:=(K0.o.alloc (.map #[] 0)).cell
 have hmm:=@run_makeMap prog
 go_upto_region 2 with(refine yJ _ rfl _ _ _ _ rfl 4 underlying78 w1 0 (fun _=>none) rfl (iq.made w1) aH (a1,a2) (.bool true) rfl rfl hka ?_;intro w2 HM hg2)
 obtain⟨p,hp⟩:∃ p,p=w.heap.size:=⟨_,rfl⟩
 obtain⟨b,hb⟩:∃ b,b=w1.heap.size:=⟨_,rfl⟩
 have xN:=aa hp
 have HBb:=aa (show b=p+1 by rw[hb,hp];exact DD.o)
 have GH:=aa (show iq w2 b 1 (lS [(a1,a2)]) by
  have e:(fun k'=>if k'=(a1,a2)then some (.bool true)else none:eX→Option Value)=lS [(a1,a2)]:=(by funext k;unfold lS;by_cases h:k=(a1,a2)<;>simp[h]);have:=HM.o;rw[e]at this;rw[hb];exact this)
 have dI:=aa (show Below w w w2 from(HB.o.alloc HB.o.size (.map #[] 0)).grown hg2 (by rw[aaI];have:=HB.o.size;omega) (fun j e=>by cases e;exact HB.o.size))
 have K2:=aa (show cN w2 p 51 [bU a1,bV a2] by rw[hp];exact jR hg2 (fun e=>by injection e with e;have:=DD.o;omega) (K0.o.alloc (.map #[] 0)))
 have fG:=aa (show p+2≤w2.heap.size by have:=hg2.size;rw[aaI]at this;have:=HBb.o;omega)
 rw[← hp, ← hb]
 clear HM hg2 K0 HB DD hp hb x0 hmm
 have x2:=K2.o.cell
 go_wp2_with fail
 have HQ:=aa (yM.made (p+2) w2 fG.o a1 a2)
 replace GH:=aa (GH.o.alloc (.cells #[bU a1,bV a2] 51))
 replace dI:=aa (dI.o.alloc dI.o.size (.cells #[bU a1,bV a2] 51))
 replace fG:=aa (show p+2≤(w2.alloc (.cells #[bU a1,bV a2] 51)).heap.size by rw[aaI];have:=fG.o;omega)
 clear x2 K2
 go_loopw [6] (fun v wr=>Best (FrmR gg U (a1,a2) p b w) (fun s=>U.length - s.1) v wr) (fun v wr=>Uf (FrmR gg U (a1,a2) p b w) (fun s=>U.length - s.1) v wr)
 case atStart=>exact(GQ (s:=(0,[(a1,a2)])) _ ⟨_,0,1,1,rfl,aa rfl,HQ,GH,aa (Inv.start gg (a1,a2)),aa (aaG _),aa rfl,dI,fG⟩).1
 case round=>
  clear HQ GH dI fG;obtain⟨⟨j,L⟩,⟨g,o,c,m,rfl,Hm,HQ,HM,HI,Hj,HF,HB,fG⟩,hmin⟩:=hrel;have HMin:=aa hmin;clear hmin;dsimp only at Hm HQ HM HI Hj HF;by_cases hjl:j<L.length;case pos=>
   have hd:L.drop j=L[j] :: L.drop (j+1):=aah hjl;have Cc:m=(L.drop (j+1)).length+1:=(by rw[← Hm.o,hd];rfl);have hc:=HQ.o.room;rw[hd]at hc;have hcx:=HQ.o.cell (j:=0) (by rw[hd];exact Nat.succ_pos _);have hmem:=aan hjl;have X1:=aa (HSub.o j L HI.o);have hkz:=HUk.o _ (X1.o.1 _ hmem);have hstep:=Th (g:=gg) (f:=U.length - j - 1) hjl;have hlen:=X1.o.2;rw[show U.length - j - 1+1=U.length - j by omega,HF.o]at hstep;have Uh:=aa hstep;have HInv:=aa (HI.o.step hjl);obtain⟨A,ca,Ui,qU⟩:=HG.o.look2 hkz;have Oh:=Ui wr HB.o;clear Ui;have lz:=aa qU;have Xb:=aa (rP.o L[j]);have e0:(L.drop j)[0]'(by rw[hd];exact Nat.succ_pos _)=L[j]:=ai;rw[e0]at hcx;generalize L[j]=z at hcx hkz Uh HInv Oh lz Xb hd;obtain⟨z1,z2⟩:=z;dsimp only at hcx Oh;obtain⟨cx0,cx1⟩:=hcx;rw[show o+0*2=o by omega]at cx0 cx1;obtain⟨row,hrw⟩:∃ row,row=gg (z1,z2):=⟨_,rfl⟩;rw[← hrw]at Uh HInv Oh lz Xb;have HUr:=aa (show ∀ y∈row,y∈U from fun y hy=>HU.o (z1,z2) y (hrw▸hy));obtain⟨nr,hnr⟩:∃ nr,nr=row.length:=⟨_,rfl⟩;have HNr:=aa hnr;rw[← hnr]at Oh;have HAdd:=aa (show ∀ k,(kB L (row.take k)).length≤U.length∧(∀ y∈kB L (row.take k),y∈U)∧∃ t,kB L (row.take k)=L++t from fun k=>by
    have hs:∀ y∈kB L (row.take k),y∈U:=fun y hy=>by
     rcases(CX _ _).1 hy with h|h
     (·exact X1.o.1 y h);exact HUr.o y (List.mem_of_mem_take h)
    obtain⟨t,ht,_⟩:=sR (row.take k) L;exact⟨nZ (rq _ _ HI.o.nodup) hs,hs,t,ht⟩)
   have hm0:((m:Int)>0):=af;clear hstep qU hmem hlen hrw hnr e0 hm0 hkz;have hmp:0<m:=af;have HM1:=aa Cc;clear Cc;have hnb:nr≤1000000:=(by rw[HNr.o];exact Xb.o);go_wp2;go_loopw [6,25] (fun v s25 wi=>∃ (k g' o' c' m':Nat),k≤nr∧s25=bU (k:Int)∧v=bW (bY g' o') m' c'∧Hid (((kB L (row.take k)).drop j).length=m')∧Hid (yM (p+2) g' o' c' wi ((kB L (row.take k)).drop j))∧Hid (iq wi b (kB L (row.take k)).length (lS (kB L (row.take k))))∧Hid (Below w w wi)∧Hid (p+2≤wi.heap.size)) (fun _ s25 _=>nr - (intOf s25).toNat);(case atStart=>exact⟨0,g,o,c,m,aaG _,rfl,rfl,aa (by rw[List.take_zero,kB];exact Hm.o),aa (by rw[List.take_zero,kB];exact HQ.o),aa (by rw[List.take_zero,kB];exact HM.o),HB,fG⟩);obtain⟨k,g',o',c',m',hk,rfl,rfl,Yx,FM,GH,dI,Xp⟩:=hrel;obtain⟨L2,hL2⟩:∃ L2,L2=kB L (row.take k):=⟨_,rfl⟩;have HL2:=aa hL2;have MK:=HAdd.o k;rw[← hL2]at Yx FM GH MK;clear hL2;by_cases hlt:k<nr;case pos=>
    (have nK:k<row.length:=by have:=HNr.o;omega);obtain⟨bl,ol,cs,hA,_,hbl,hcs,cT⟩:=(lz.o.bZ dI.o).get nK;subst hA;have hcs:cs=[bU row[k].1,bV row[k].2]:=hcs;subst hcs;(have c0:b_ wr bl (ol+k*2) (bU row[k].1):=by have:=cT 0 _ rfl;rwa [show ol+k*eA.k+0=ol+k*2 by rfl]at this);have c1:b_ wr bl (ol+k*2+1) (bV row[k].2):=cT 1 _ rfl;have hky:=HUk.o _ (HUr.o _ (aan nK));have Ob:row.take (k+1)=row.take k++[row[k]]:=aaz nK;have qV:=aa (show kB L (row.take (k+1))=if row[k]∈L2 then L2 else L2++[row[k]] by rw[Ob,Fa, ← HL2.o]);generalize row[k]=y at c0 c1 hky qV;obtain⟨y1,y2⟩:=y;dsimp only at c0 c1;have hjL:j≤L2.length:=by
     obtain⟨t2,ht2⟩:=MK.2.2;rw[ht2,aao];have:=Hj.o;omega
    have hu2:=MK.1;have A_:=HUl.o;have HML:=aa (show m'<1000000∧L2.length<1000000 by have:=Yx.o;rw[List.length_drop]at this;omega);have KB:=aa (show cN (wr.alloc (.cells #[bU y1,bV y2] 51)) wr 51 [bU y1,bV y2]from heap_alloc_new wr _);have Dh:=aa (dI.o.alloc dI.o.size (.cells #[bU y1,bV y2] 51));have Yy:=aa (GH.o.alloc (.cells #[bU y1,bV y2] 51));have HQn:=aa (FM.o.alloc (.cells #[bU y1,bV y2] 51));have uD:=aa (show p+2≤(wr.alloc (.cells #[bU y1,bV y2] 51)).heap.size by rw[aaI];have:=Xp.o;omega);have HQlt:=aa FM.o.lt;clear cT Ob MK hu2 A_ hbl;go_upto_region 8 with fail;have HWs:=aa (aaI wr (.cells #[bU y1,bV y2] 51));generalize wr.alloc (.cells #[bU y1,bV y2] 51)=wx at KB Dh Yy HQn uD HWs ⊢;clear c0 c1;have xb:=KB.o.cell;by_cases hin:(y1,y2)∈L2;(case pos=>have hlk:=yO Yy.o hky (r:=true) (by simp[hin]);have HT:=aa (show kB L (row.take (k+1))=L2 by rw[qV.o,if_pos hin]);clear hin;dsimp only at hlk;go_wp2;go_roundw;exact⟨k+1,g',o',c',m',by omega,rfl,rfl,aa (by rw[HT.o];exact Yx.o),aa (by rw[HT.o];exact HQn.o),aa (by rw[HT.o];exact Yy.o),Dh,uD⟩;simp[intOf];omega);have hlk:=yO Yy.o hky (r:=false) (by simp[hin]);have HT:=aa (show kB L (row.take (k+1))=L2++[(y1,y2)] by rw[qV.o,if_neg hin]);have HDr:=aa (show(L2++[(y1,y2)]).drop j=L2.drop j++[(y1,y2)]from List.drop_append_of_le_length hjL);clear hin hjL;dsimp only at hlk;go_upto_region 10 with(refine yK _ rfl _ _ _ _ rfl 4 underlying78 b L2.length (lS L2) rfl Yy.o (by have:=HML.o;unfold maxLen;omega) (y1,y2) (.bool true) rfl rfl hky ?_;intro w2 E5 hg3);clear hlk xb;(have Mb:b<w.heap.size+2:=by have:=HBb.o;have:=xN.o;omega);(have DR:some g'≠some b:=fun e=>by injection e with e;have:=HQn.o.base;have:=HBb.o;omega);have SR:=aa (HQn.o.block (hg3.block g' HQn.o.lt DR));have HM4:=aa (show iq w2 b (L2++[(y1,y2)]).length (lS (L2++[(y1,y2)])) by have:=E5.o;rw[P_]at this;rw[aao];exact this);have KB3:=aa (jR hg3 (fun e=>by injection e with e;have:=HBb.o;have:=Xp.o;omega) KB.o);have eE:=aa (show Below w w w2 from Dh.o.grown hg3 Dh.o.size (fun j e=>by cases e;have:=HBb.o;have:=xN.o;omega));have HLe3:=aa (show p+2≤w2.heap.size from aaC uD.o hg3.size);clear hg3 E5 Mb DR HQn Yy Dh KB uD;have xb:=KB3.o.cell;go_wp2_with (at_builtin;refine xw (B:=p+2) rfl (.tmp 35) (.tmp 37) rfl (SR.o.alloc (.cells #[bU y1,bV y2] 51)) Yx.o rfl ?hl ?hB (bY w2 0) 1 rfl y1 y2 (Eb _ _ _ _) ?_);(case hl=>have:=HML.o;omega);(case hB=>rw[aaI];have:=HLe3.o;omega);intro g4 o4 c4 w4 HQ4 hg4;(have hgb:b<p+2:=by have:=HBb.o;omega);have hgq:p+2≤g':=SR.o.base;have JK:=aa (show iq w4 b (L2++[(y1,y2)]).length (lS (L2++[(y1,y2)]))from(HM4.o.alloc (.cells #[bU y1,bV y2] 51)).block (hg4.block b (HM4.o.alloc (.cells #[bU y1,bV y2] 51)).lt (fun e=>by injection e with e;omega)));have dO:=aa (show Below w w w4 from(eE.o.alloc eE.o.size (.cells #[bU y1,bV y2] 51)).grown hg4 (by rw[aaI];have:=eE.o.size;omega) (fun j e=>by cases e;have:=xN.o;omega));have HLe5:=aa (show p+2≤w4.heap.size by have:=hg4.size;rw[aaI]at this;have:=HLe3.o;omega);have Hm5:=aa (show((L2++[(y1,y2)]).drop j).length=m'+1 by rw[HDr.o,aao,Yx.o];rfl);clear hg4 xb hgb hgq;go_wp2;go_roundw;exact⟨k+1,g4,o4,c4,m'+1,by omega,rfl,rfl,aa (by rw[HT.o];exact Hm5.o),aa (by rw[HT.o,HDr.o];exact HQ4.o),aa (by rw[HT.o];exact JK.o),dO,HLe5⟩;simp[intOf];omega
   case neg=>
    obtain rfl:k=nr:=by omega
    have hfull:row.take k=row:=aax (by have:=HNr.o;omega)
    have hle2:=MK.1
    obtain⟨t2,ht2⟩:=MK.2.2
    have hcq:=FM.o.room
    have hlen2:(L2.drop j).length=L2.length - j:=List.length_drop
    have hl2:j+1≤L2.length:=by rw[ht2,aao];omega
    have Zh:=aa hl2
    have hcc:m'≤c':=by have:=Yx.o;omega
    have hm':1≤m':=by have:=Yx.o;omega
    have hc63:=FM.o.most
    have hd2:L2.drop j=L2[j] :: L2.drop (j+1):=aah af
    have hq2:=FM.o
    rw[hd2]at hq2
    have SR:=aa (Ug hq2)
    have Uj:=aa (show PC gg (U.length - j - 1) (j+1) L2=from_ gg U.length (a1,a2) by rw[HL2.o,hfull];exact Uh.o.symm)
    have Yz:=aa (show Inv gg (a1,a2) (j+1) L2 by rw[HL2.o,hfull];exact HInv.o)
    have HMm:=aa (show(L2.drop (j+1)).length=m' - 1 by have:=Yx.o;rw[List.length_drop]at*;omega)
    have HU3:=aa hle2
    clear hfull MK ht2 hlen2 hl2 hd2 hq2 hle2 hcq
    unfold maxLen at hc63
    clear hlt hk hmp
    go_wp2_with fail
    obtain⟨o3,he3,Wx⟩:=SR.o
    rw[he3]
    replace SR:=aa Wx
    clear he3 Wx
    go_roundw
    case rel=>exact(GQ (s:=(j+1,L2)) _ ⟨g',_,_,_,rfl,HMm,SR,GH,Yz,Zh,aa (by rw[Nat.sub_add_eq];exact Uj.o),dI,Xp⟩).1
    case measure=>
     have hb:=(GQ (R:=FrmR gg U (a1,a2) p b w) (s:=(j+1,L2)) (fun s=>U.length - s.1) ⟨g',_,_,_,rfl,HMm,SR,GH,Yz,Zh,aa (by rw[Nat.sub_add_eq];exact Uj.o),dI,Xp⟩).2;have hm:=HMin.o;have:=Zh.o;have:=HU3.o;dsimp only at hb hm;omega
  (have hm0:m=0:=by have:=Hm.o;rw[List.length_drop]at this;omega);have HE:=aa (show L=from_ gg U.length (a1,a2) by rw[← HF.o,WS af]);subst hm0;clear hjl;go_wp2;exact HP.o (.returned (.map (some b))) _ ⟨b,rfl,by rw[← HE.o];exact HM.o,by have:=HBb.o;have:=xN.o;omega,HB.o⟩
end
end Go.Proofs.YtfppbjfnllhgcaaGreat
namespace Ln
open Kb Sh
section
def DG (a b:eX):Prop:=a.1<b.1∨a.1=b.1∧a.2.data.toList<b.2.data.toList
instance (a b:eX):Decidable (DG a b):=by unfold DG;infer_instance
theorem oL (a:eX):¬DG a a:=by
 rintro(h|⟨_,h⟩)
 (·omega);exact List.lt_irrefl _ h
theorem yP {a b c:eX} (h1:DG a b) (h2:DG b c):DG a c:=by
 unfold DG at*;rcases h1 with h1|⟨e1,h1⟩
 ·rcases h2 with h2|⟨e2,h2⟩
  (·exact .inl af);exact .inl af
 rcases h2 with h2|⟨e2,h2⟩
 (·exact .inl af);exact .inr ⟨by omega,List.lt_trans h1 h2⟩
theorem Oi:∀ {l m:List eX},l.Pairwise DG→m.Pairwise DG→(∀ x,x∈l↔x∈m)→l=m
 |[],[],_,_,_=>rfl
 |[],b :: m,_,_,h=>absurd ((h b).2 (.head _)) ai
 |a :: l,[],_,_,h=>absurd ((h a).1 (.head _)) ai
 |a :: l,b :: m,hl,hm,h=>by
  obtain⟨l1,l2⟩:=List.pairwise_cons.1 hl;obtain⟨m1,m2⟩:=List.pairwise_cons.1 hm;have hab:a=b:=by
   rcases aas.1 ((h a).1 (.head _))with e|h1
   (·exact e);rcases aas.1 ((h b).2 (.head _))with e|h2
   (·exact e.symm);exact absurd (yP (l1 b h2) (m1 a h1)) (oL a)
  subst hab;congr 1;refine Oi l2 m2 fun x=>⟨fun hx=>?_,fun hx=>?_⟩
  ·rcases aas.1 ((h x).1 (.tail _ hx))with e|h1
   (·exact absurd (e▸l1 x hx) (oL _));exact h1
  rcases aas.1 ((h x).2 (.tail _ hx))with e|h1
  (·exact absurd (e▸m1 x hx) (oL _));exact h1
structure Fc (s:cL) (nm:ByteArray) (l:List eX):Prop where
 asc:l.Pairwise DG
 mem:∀ x,x∈l↔x∈xL s nm
theorem Fc.uniq {s:cL} {nm:ByteArray} {l m:List eX} (h:Fc s nm l) (k:Fc s nm m):l=m:=Oi h.asc k.asc fun x=>(h.mem x).trans (k.mem x).symm
theorem Uk {s:cL} {nm:ByteArray} {l m:List eX} (h:Fc s nm l) (e:xL s nm=m) {k:List eX} (h1:k.Pairwise DG) (h2:k.Perm m):l=k:=
 h.uniq ⟨h1,fun x=>by rw[e];exact h2.mem_iff⟩
def hasB (l:List eX) (c:Int) (nm:ByteArray):Bool:=l.any fun z=>z.1==c&&z.2==nm
theorem xz {l:List eX} {c:Int} {nm:ByteArray}:hasB l c nm=true↔(c,nm)∈l:=by
 unfold hasB;rw[List.any_eq_true];constructor
 (·rintro⟨z,hz,h⟩;rw[Bool.and_eq_true]at h;have e:z=(c,nm):=Prod.ext (eq_of_beq h.1) (eq_of_beq h.2);exact e▸hz);intro h;exact⟨_,h,by simp⟩
def ofS (s:cL) (x:eX):List Nat:=(List.range s.cells.length).filter fun i=>match s.cells[i]? with
 |some c=>decide (x∈xL s c.name)
 |none=>false
open Ck in
theorem ex_l1 {l:List eX} (h:Fc pW (bs [98]) l):l=[(1,bs [105,110]),(2,bs [103,114,105,100]),(3,bs [102]),(3,bs [103]),(4,bs [98])]:=
 Uk h ex_on1 (by decide+kernel) (by decide+kernel)
open Ck in
theorem ex_l3 {l:List eX} (h:Fc pW (bs [100]) l):l=[(4,bs [97]),(4,bs [100])]:=Uk h ex_on3 (by decide+kernel) (by decide+kernel)
open Ck in
theorem Oj:ofS pW (4,bs [120])=[]∧ofS pW (1,bs [97,105,114])=[2]∧ofS pW (4,bs [97])=[0,2,3]∧ofS pW (2,bs [103,114,105,100])=[1,2]:=by decide+kernel
section
variable {s:cL} (A:N6 s) {c:fH} (hc:c∈s.cells) {l:List eX} (hl:Fc s c.name l)
include A hc hl
omit A in
theorem Qa:hasB l 4 c.name=true:=xz.2 ((hl.mem _).2 (N7 hc))
end
def Fe (l:List Nat) (n:Nat):Int:=if n∈l then(l.idxOf n:Int)else -1
theorem JS {o:List Nat} (h:o.Nodup) {u a:Nat} (hu:o[u]? =some a):Fe o a=u:=by
 have hm:a∈o:=List.mem_of_getElem? hu;unfold Fe;rw[if_pos hm];have hl:o.idxOf a<o.length:=List.idxOf_lt_length_of_mem hm;have h1:o[o.idxOf a]? =some a:=(by rw[List.getElem?_eq_getElem hl,List.getElem_idxOf]);have:=GI h h1 hu;omega
theorem Ul {o:List Nat} (h:o.Nodup) {a b:Nat} (p:td o a b):Fe o a<Fe o b:=by
 obtain⟨u,v,h1,h2,h3⟩:=p;rw[JS h h2,JS h h3];omega
theorem at_mem {l:List Nat} {n:Nat}:0≤Fe l n↔n∈l:=by
 unfold Fe;by_cases h:n∈l
 (·rw[if_pos h];exact⟨fun _=>h,fun _=>Int.natCast_nonneg _⟩);rw[if_neg h];exact⟨fun h2=>absurd h2 ak,fun h2=>absurd h2 h⟩
section
variable {s:cL} (hs:Ck.iB s=0) {i k:Nat} (hi:i<s.cells.length) (hk:k<s.cells.length) {l:List eX} (hl:Fc s s.cells[i].name l)
include hs
theorem JT:∃ g,Go.Proofs.YtfppbjfnllhgcaaGreat.jg s=some g∧(Go.Proofs.YtfppbjfnllhgcaaGreat.gG s).1=0∧(Go.Proofs.YtfppbjfnllhgcaaGreat.gG s).2.length=s.cells.length∧∀ (i k:Nat) (hi:i<s.cells.length) (hk:k<s.cells.length) (l:List eX),Fc s s.cells[i].name l→(0≤Fe (g.getD i []) k→hasB l 4 s.cells[k].name=true)∧(s.funcs=[]→k≠i→hasB l 4 s.cells[k].name=true→Fe (Go.Proofs.YtfppbjfnllhgcaaGreat.gG s).2 k<Fe (Go.Proofs.YtfppbjfnllhgcaaGreat.gG s).2 i∧∀ m,Fc s s.cells[k].name m→hasB m 4 s.cells[i].name=false):=by
 obtain⟨hr,_,g,hg,ho⟩:=Ck.th hs;obtain⟨_,_,_,hge⟩:=pH hg;have hlen:g.length=s.cells.length:=(by rw[hge];simp);have hnd:∀ j,(g.getD j []).Nodup:=fun j=>by
  by_cases hj:j<s.cells.length
  (·rw[Dc hg hj];exact List.Pairwise.filter _ List.nodup_range);rw[List.getD_eq_getElem?_getD,List.getElem?_eq_none af];simp
 obtain⟨o1,o2,_,_⟩:=Kn.u_ hnd ho;refine⟨g,hg,?_,by omega,fun i k hi hk l hl=>⟨fun h=>?_,fun hf hne h=>?_⟩⟩
 (·unfold Go.Proofs.YtfppbjfnllhgcaaGreat.gG;rw[hg];dsimp only;rw[ho])
 (·obtain⟨_,h1⟩:=TW hg hi (at_mem.1 h);exact xz.2 ((hl.mem _).2 h1));have h1:=(hl.mem _).1 (xz.1 h);have ha:=JM hg hf ho hi hk hne h1;refine⟨Ul o1 ha,fun m hm=>?_⟩;rw[Bool.eq_false_iff];intro h2;exact ha.asymm o1 (JM hg hf ho hk hi hne.symm ((hm.mem _).1 (xz.1 h2)))
end
end
end Ln
namespace Go.Proofs.YtfppbjfnllhgcaaGreat
section
open Go Go.RowKit Bg Go.Proofs Sh Kb
theorem Dk (A A':Option Addr) (c c':Nat) (l l':List Nat) (w:World) (h:Sq jx w Any A l) (h':Sq jx w Any A' l') (he:l=l') (hl:l.length≤1000000):Calls prog 11 #[bW A l c,bW A' l' c'] w fun e w'=>e= .returned (.bool true)∧Below w w w':=by
 subst he;obtain⟨n,hn⟩:∃ n,n=l.length:=⟨_,rfl⟩;have HN:=aa hn;rw[← hn]at hl ⊢;have H1:=aa h;have H2:=aa h';clear h h' hn;go_enter func11,ntmps11;go_wp2;go_loopw [5] (fun v wr=>∃ k:Nat,k≤n∧v=bU (k:Int)∧Hid (Below w w wr)) (fun v _=>n - (intOf v).toNat);(case atStart=>exact⟨0,by omega,rfl,aa (aaf _ _)⟩);obtain⟨k,hk,rfl,HB⟩:=hrel;by_cases hlt:k<n
 (·(have nK:k<l.length:=by have:=HN.o;omega);obtain⟨b,o,cs,hA,_,_,hcs,cT⟩:=(H1.o.bZ HB.o).get nK;obtain⟨b',o',cs',hA',_,_,ML,nU⟩:=(H2.o.bZ HB.o).get nK;subst hA hA';have hcs:cs=[bU ((l[k]:Nat):Int)]:=hcs;have ML:cs'=[bU ((l[k]:Nat):Int)]:=ML;subst hcs ML;(have c0:b_ wr b (o+k) (bU ((l[k]:Nat):Int)):=by have:=cT 0 _ rfl;rwa [show o+k*jx.k+0=o+k by show o+k*1+0=_;omega]at this);(have c1:b_ wr b' (o'+k) (bU ((l[k]:Nat):Int)):=by have:=nU 0 _ rfl;rwa [show o'+k*jx.k+0=o'+k by show o'+k*1+0=_;omega]at this);generalize l[k]=x at c0 c1;clear cT nU;go_wp2_with fail;go_quiet (fail);have dI:=aa (below_drewN HB.o nq);generalize wr.drewN nq=wa at dI ⊢;go_wp2;go_roundw;exact⟨k+1,by omega,rfl,dI⟩;simp[intOf];omega);(obtain rfl:k=n:=by omega);go_wp2;go_ret;exact⟨rfl,HB.o⟩
theorem n_ (k:Int) (nm:ByteArray) (w:World):Calls prog 30 #[bU k,bV nm] w fun e w'=>e= .returned (.agg #[bU k,bV nm])∧w'=w.alloc (.cells #[bU k,bV nm] 51):=by
 go_enter func30,ntmps30;have hk:cN (w.alloc (.cells #[bU k,bV nm] 51)) w 51 [bU k,bV nm]:=heap_alloc_new w _;have z:=hk.cell;go_wp2_with fail;exact bodyPost_ret (by simp[results,results30,go_sem,z]) rfl ⟨rfl,rfl⟩
theorem Um {l:List Nat} {n i:Nat} (hi:i<l.length) (h:l[i]=n) (hn:n∉l.take i):Ln.Fe l n=i:=by
 have hm:n∈l:=h▸aan hi;unfold Ln.Fe;rw[if_pos hm];have:l.idxOf n=i:=by
  (conv=>lhs;rw[← List.take_append_drop i l,aah hi,h]);rw[List.idxOf_append,if_neg hn,List.idxOf_cons_self,aaq];omega
 rw[this]
theorem Un (A:Option Addr) (c:Nat) (l:List Nat) (m:Nat) (w:World) (h:Sq jx w Any A l) (hl:l.length≤1000000):Calls prog 21 #[bW A l c,bU (m:Int)] w fun e w'=>e= .returned (bU (Ln.Fe l m))∧Below w w w':=by
 obtain⟨n,hn⟩:∃ n,n=l.length:=⟨_,rfl⟩;have HN:=aa hn;rw[← hn]at hl ⊢;have H1:=aa h;clear h hn;obtain⟨r,hr⟩:∃ r,r=Ln.Fe l m:=⟨_,rfl⟩;have HR:=aa hr;rw[← hr];clear hr;go_enter func21,ntmps21;go_wp2;go_loopw [5] (fun v wr=>∃ i:Nat,i≤n∧v=bU (i:Int)∧Hid (m∉l.take i)∧Hid (Below w w wr)) (fun v _=>n - (intOf v).toNat);(case atStart=>exact⟨0,by omega,rfl,aa ai,aa (aaf _ _)⟩);obtain⟨i,hi,rfl,HF,HB⟩:=hrel;by_cases hlt:i<n;case pos=>
  (have hil:i<l.length:=by have:=HN.o;omega);obtain⟨b,o,cs,hA,_,_,hcs,cT⟩:=(H1.o.bZ HB.o).get hil;subst hA;have hcs:cs=[bU ((l[i]:Nat):Int)]:=hcs;subst hcs;(have c0:b_ wr b (o+i) (bU ((l[i]:Nat):Int)):=by have:=cT 0 _ rfl;rwa [show o+i*jx.k+0=o+i by show o+i*1+0=_;omega]at this);clear cT;by_cases e:l[i]=m;(case pos=>have HE:=aa (show r=(i:Int) by rw[HR.o];exact Um hil e HF.o);rw[e]at c0;clear e;go_wp2;go_ret;exact⟨by rw[HE.o];rfl,HB.o⟩);have IY:=aa (show m∉l.take (i+1) by
   rw[aaz hil,aar,aau];rintro(h|h)
   (·exact HF.o h);exact e h.symm)
  generalize l[i]=x at c0 e;have z:((x:Int)==(m:Int))=false:=aU;go_wp2;go_roundw;exact⟨i+1,by omega,rfl,IY,HB⟩;simp[intOf];omega
 (obtain rfl:i=n:=by omega);have HE:=aa (show r=-1 by
  rw[HR.o];have h2:=HF.o;rw[aax aC]at h2;unfold Ln.Fe;rw[if_neg h2])
 go_wp2;go_ret;exact⟨by rw[HE.o];rfl,HB.o⟩
end
open Go Go.RowKit Bg Go.Proofs Sh Kb Ln
theorem JU {iV:ByteArray→Bool} {par:Bool} (l:List cw) (x:cw):iA iV par (l++[x])=iA iV par l++fJ iV par x:=by
 rw[uB];simp[iA]
theorem Ff {iV:ByteArray→Bool} {par:Bool} {op:Int} {nm:ByteArray}:(jC iV par op nm).length≤1:=by
 unfold jC;split
 (·exact aaB _);split
 (·exact aaB _);split
 (·split<;>exact aaB _);exact aaG _
theorem Fg {iV:ByteArray→Bool} {par:Bool} (N:Nat):∀ x:cw,cE x≤N→(fJ iV par x).length≤cE x:=by
 induction N with
 |zero=>intro x hx;have:=dB x;omega
 |succ N ih=>
  intro x hx;cases x with
  |mk op n u nm l=>
   have h2:cE (.mk op n u nm l)=1+cR l:=aM;rw[fJ,aao,h2];have h3:∀ l:List cw,cR l≤N→(iA iV par l).length≤cR l:=by
    intro l;induction l with
    |nil=>intro _;simp[iA,cR]
    |cons y l ihl=>
     intro hl;have e:cR (y :: l)=cE y+cR l:=(by rw[cR]);rw[e]at hl ⊢;rw[iA,aao];have:=ih y af;have:=ihl af;omega
   have:=h3 l af;have:=Ff (iV:=iV) (par:=par) (op:=op) (nm:=nm);omega
theorem rL {iV:ByteArray→Bool} {par:Bool}:∀ (l:List cw),(iA iV par l).length≤cR l
 |[]=>by simp[iA]
 |y :: l=>by
  have e:cR (y :: l)=cE y+cR l:=(by rw[cR]);rw[iA,aao,e];have:=Fg (iV:=iV) (par:=par) _ y aac;have:=rL (iV:=iV) (par:=par) l;omega
def ItP (l:List eX) (w:World) (e:Ending) (w':World):Prop:=∃ A c,e= .returned (bW A l c)∧Sq eA w' (fun b=>w.heap.size≤b) A l∧Below w w w'
theorem Uo {w:World} {S S':Nat→Prop} {A:Option Addr} {xs:List eX} (h:Sq eA w S A xs):rU eA w S' A xs:=by
 obtain⟨css,h1,h2,h3⟩:=h;exact⟨css,h1,h2.mono fun _ _ _=>trivial,fun j cs x hc hx=>h3 j cs x hc hx⟩
def rB (par:Bool) (iV:ByteArray→Bool) (mv:Value) (w:World):Prop:=par=false→∃ g L,mv= .map (some g)∧gQ w g L∧∀ nm,iV nm=L.contains nm
theorem rB.bZ {par:Bool} {iV:ByteArray→Bool} {mv:Value} {w w':World} (h:rB par iV mv w) (hb:Below w w w'):rB par iV mv w':=fun hp=>by
 obtain⟨g,L,e,hs,hq⟩:=h hp;exact⟨g,L,e,hs.bZ hb hs.lt,hq⟩
theorem Dl (par:Bool) (iV:ByteArray→Bool) (mv:Value) (N:Nat) (hN:N≤1000000):∀ (x:cw),cE x≤N→lV x→∀ (w:World) (cs:List Value),rB par iV mv w→cH w Any cs x→Calls prog 57 #[.agg cs.toArray,mv,.bool par] w (ItP (fJ iV par x) w):=by
 induction N with
 |zero=>intro x hx;have:=dB x;omega
 |succ N ih=>
  intro x hx hsm w cs hC hI
  replace ih:=ih af
  obtain⟨op,n,un,nm,A2,c2,ar,e1,e2,hS⟩:=cH.parts hI
  subst e1 e2
  generalize hP:ItP (fJ iV par (.mk op n un nm ar)) w=P
  have HP:=aa (show ∀ e w',ItP (jC iV par op nm++iA iV par ar) w e w'→P e w' from fun e w' h=>hP▸h)
  clear hP
  have xH:cE (.mk op n un nm ar)=1+cR ar:=by unfold cE;rfl
  have hnl:=fZ ar
  have har:ar.length≤1000000:=by omega
  have HNL:=aa (show cR ar≤1000000 by omega)
  have vB:=aa (show ∀ y∈ar,lV y→∀ (w:World) (cs:List Value),rB par iV mv w→cH w Any cs y→Calls prog 57 #[.agg cs.toArray,mv,.bool par] w (ItP (fJ iV par y) w)from fun y hy=>ih y bq)
  have Xg:=aa (fun l x=>JU (iV:=iV) (par:=par) l x)
  have HNi:=aa (show iA iV par []=[] by simp[iA])
  have C9:=aa (fun l=>rL (iV:=iV) (par:=par) l)
  have HCb:=aa (fun w w' (h:rB par iV mv w) (k:Below w w w')=>h.bZ k)
  have HA:=aa hS
  have HC:=aa hC
  have AR:nm.size≤maxLen:=by unfold lV at hsm;exact hsm.2.1
  have vH:=aa (show ∀ y∈ar,lV y from by unfold lV at hsm;exact hsm.2.2.mem)
  have qb:=aa (show cN (w.alloc (.cells #[bU op,bU n,bV un,bV nm,bW A2 ar c2] 47)) w 47 [bU op,bU n,bV un,bV nm,bW A2 ar c2]from heap_alloc_new w _)
  have gW:=aa ((aaf w w).alloc aac (.cells #[bU op,bU n,bV un,bV nm,bW A2 ar c2] 47))
  have fG:=aa (show w.heap.size+1≤(w.alloc (.cells #[bU op,bU n,bV un,bV nm,bW A2 ar c2] 47)).heap.size by rw[aaI];exact aaB _)
  have Q3:=aa (fun c W=>n_ c nm W)
  clear hI hS hC ih hsm hx xH hnl
  generalize fJ iV par=NE at vB Xg
  generalize iA iV par=NL at HP Xg HNi C9
  have V0:=HC
  generalize rB par iV mv=CA at V0 vB HCb
  have uD:=aa (Ff (iV:=iV) (par:=par) (op:=op) (nm:=nm))
  go_enter func57,ntmps57
  go_upto_region 2 with fail
  generalize (w.alloc (.cells #[bU op,bU n,bV un,bV nm,bW A2 ar c2] 47))=w1 at qb gW fG ⊢
  have x1:=qb.o.cell
  have uy:=aa (show dM eA 51 (w+1) w1 (fun _=>False) cD []from dM.qK)
  have six:op=2∨op=3∨(op=1∧par=false∧iV nm=true)∨(op=1∧par=false∧iV nm=false)∨(op=1∧par=true)∨(¬op=2∧¬op=3∧¬op=1):=by
   by_cases h2:op=2
   (·exact .inl h2);by_cases h3:op=3
   (·exact .inr (.inl h3));by_cases h1:op=1
   ·cases par
    ·cases h:iV nm
     (·exact .inr (.inr (.inr (.inl ⟨h1,rfl,rfl⟩))));exact .inr (.inr (.inl ⟨h1,rfl,rfl⟩))
    exact .inr (.inr (.inr (.inr (.inl ⟨h1,rfl⟩))))
   exact .inr (.inr (.inr (.inr (.inr ⟨h2,h3,h1⟩))))
  rcases six with ho|ho|⟨ho,rfl,hc⟩|⟨ho,rfl,hc⟩|⟨ho,rfl⟩|⟨h2,h3,h1⟩
  case' inl=>
   have D4:=aa (show jC iV par op nm=[((2:Int),nm)] by simp[jC,ho])
   go_upto_region 10 with(first|(go_at_call 30;refine(Q3.o _ _).mono ?_;rintro e w' ⟨rfl,rfl⟩)|(at_builtin;refine dD (R:=eA) (S:=fun _=>False) (xs:=[]) (ys:=[(2,nm)]) (T:=51) (t:=35) (B:=w.heap.size+1) rfl (.tmp 14) (.tmp 18) 35 rfl rfl tu dM.qK rfl _ 1 1 rfl rfl ?hN ?hl ?hB rfl (n:=1) rfl ?_))
   case hN=>exact rU.jH (R:=eA) (cs:=[_,_]) rfl _ (by rw[aaI])
   case hl=>decide
   case hB=>simp only[aaI];have:=fG.o;omega
   intro A9 c9 w9 DX HG
   replace uy:=aa (show dM eA 51 (w+1) w9 (fun _=>False) (bW A9 1 c9) [(2,nm)]from HG.o.own)
   replace gW:=aa (((gW.o.alloc gW.o.size (.cells #[bU 2,bV nm] 51)).alloc bz (.cells #[bU 2,bV nm] 51)).grown HG.o.turn aY (fun k e=>by cases e))
   replace fG:=aa (show w.heap.size+1≤w9 by have:=HG.o.turn.size;simp only[aaI]at this;have:=fG.o;omega)
   replace qb:=aa (jR HG.o.turn bK ((qb.o.alloc (.cells #[bU 2,bV nm] 51)).alloc (.cells #[bU 2,bV nm] 51)))
   clear HG x1 ho
   rw[← D4.o]at uy
   generalize jC iV par op nm=L0 at uy HP D4 uD
  case' inr.inl=>
   have D4:=aa (show jC iV par op nm=[((3:Int),nm)] by simp[jC,ho])
   go_upto_region 10 with(first|(go_at_call 30;refine(Q3.o _ _).mono ?_;rintro e w' ⟨rfl,rfl⟩)|(at_builtin;refine dD (R:=eA) (S:=fun _=>False) (xs:=[]) (ys:=[(3,nm)]) (T:=51) (t:=35) (B:=w.heap.size+1) rfl (.tmp 24) (.tmp 28) 35 rfl rfl tu dM.qK rfl _ 1 1 rfl rfl ?hN ?hl ?hB rfl (n:=1) rfl ?_))
   case hN=>exact rU.jH (R:=eA) (cs:=[_,_]) rfl _ (by rw[aaI])
   case hl=>decide
   case hB=>simp only[aaI];have:=fG.o;omega
   intro A9 c9 w9 DX HG
   replace uy:=aa (show dM eA 51 (w+1) w9 (fun _=>False) (bW A9 1 c9) [(3,nm)]from HG.o.own)
   replace gW:=aa (((gW.o.alloc gW.o.size (.cells #[bU 3,bV nm] 51)).alloc bz (.cells #[bU 3,bV nm] 51)).grown HG.o.turn aY (fun k e=>by cases e))
   replace fG:=aa (show w.heap.size+1≤w9 by have:=HG.o.turn.size;simp only[aaI]at this;have:=fG.o;omega)
   replace qb:=aa (jR HG.o.turn bK ((qb.o.alloc (.cells #[bU 3,bV nm] 51)).alloc (.cells #[bU 3,bV nm] 51)))
   clear HG x1 ho
   rw[← D4.o]at uy
   generalize jC iV par op nm=L0 at uy HP D4 uD
  case' inr.inr.inl=>
   obtain⟨g,L,rfl,mZ,hq⟩:=HC.o rfl
   have hz:=(mZ.bZ gW.o mZ.lt).look nm AR
   rw[← hq nm,hc]at hz
   clear mZ hq
   have D4:=aa (show jC iV false op nm=[((4:Int),nm)] by simp[jC,ho,hc])
   go_upto_region 10 with(first|(go_at_call 30;refine(Q3.o _ _).mono ?_;rintro e w' ⟨rfl,rfl⟩)|(at_builtin;refine dD (R:=eA) (S:=fun _=>False) (xs:=[]) (ys:=[(4,nm)]) (T:=51) (t:=35) (B:=w.heap.size+1) rfl (.tmp 44) (.tmp 48) 35 rfl rfl tu dM.qK rfl _ 1 1 rfl rfl ?hN ?hl ?hB rfl (n:=1) rfl ?_))
   case hN=>exact rU.jH (R:=eA) (cs:=[_,_]) rfl _ (by rw[aaI])
   case hl=>decide
   case hB=>simp only[aaI];have:=fG.o;omega
   intro A9 c9 w9 DX HG
   replace uy:=aa (show dM eA 51 (w+1) w9 (fun _=>False) (bW A9 1 c9) [(4,nm)]from HG.o.own)
   replace gW:=aa (((gW.o.alloc gW.o.size (.cells #[bU 4,bV nm] 51)).alloc bz (.cells #[bU 4,bV nm] 51)).grown HG.o.turn aY (fun k e=>by cases e))
   replace fG:=aa (show w.heap.size+1≤w9 by have:=HG.o.turn.size;simp only[aaI]at this;have:=fG.o;omega)
   replace qb:=aa (jR HG.o.turn bK ((qb.o.alloc (.cells #[bU 4,bV nm] 51)).alloc (.cells #[bU 4,bV nm] 51)))
   clear HG x1 ho hc hz
   rw[← D4.o]at uy
   generalize jC iV false op nm=L0 at uy HP D4 uD
  case' inr.inr.inr.inl=>
   obtain⟨g,L,rfl,mZ,hq⟩:=HC.o rfl
   have hz:=(mZ.bZ gW.o mZ.lt).look nm AR
   rw[← hq nm,hc]at hz
   clear mZ hq
   have D4:=aa (show jC iV false op nm=[((1:Int),nm)] by simp[jC,ho,hc])
   go_upto_region 10 with(first|(go_at_call 30;refine(Q3.o _ _).mono ?_;rintro e w' ⟨rfl,rfl⟩)|(at_builtin;refine dD (R:=eA) (S:=fun _=>False) (xs:=[]) (ys:=[(1,nm)]) (T:=51) (t:=35) (B:=w.heap.size+1) rfl (.tmp 58) (.tmp 62) 35 rfl rfl tu dM.qK rfl _ 1 1 rfl rfl ?hN ?hl ?hB rfl (n:=1) rfl ?_))
   case hN=>exact rU.jH (R:=eA) (cs:=[_,_]) rfl _ (by rw[aaI])
   case hl=>decide
   case hB=>simp only[aaI];have:=fG.o;omega
   intro A9 c9 w9 DX HG
   replace uy:=aa (show dM eA 51 (w+1) w9 (fun _=>False) (bW A9 1 c9) [(1,nm)]from HG.o.own)
   replace gW:=aa (((gW.o.alloc gW.o.size (.cells #[bU 1,bV nm] 51)).alloc bz (.cells #[bU 1,bV nm] 51)).grown HG.o.turn aY (fun k e=>by cases e))
   replace fG:=aa (show w.heap.size+1≤w9 by have:=HG.o.turn.size;simp only[aaI]at this;have:=fG.o;omega)
   replace qb:=aa (jR HG.o.turn bK ((qb.o.alloc (.cells #[bU 1,bV nm] 51)).alloc (.cells #[bU 1,bV nm] 51)))
   clear HG x1 ho hc hz
   rw[← D4.o]at uy
   generalize jC iV false op nm=L0 at uy HP D4 uD
  case' inr.inr.inr.inr.inl=>
   have D4:=aa (show jC iV true op nm=[] by simp[jC,ho])
   go_upto_region 10 with fail
   clear x1 ho
   rw[← D4.o]at uy
   generalize jC iV true op nm=L0 at uy HP D4 uD
  case' inr.inr.inr.inr.inr=>
   have z2:(op==2)=false:=by simpa using h2
   have z3:(op==3)=false:=by simpa using h3
   have z1:(op==1)=false:=by simpa using h1
   have D4:=aa (show jC iV par op nm=[] by simp[jC,h1,h2,h3])
   go_upto_region 10 with fail
   clear x1
   rw[← D4.o]at uy
   generalize jC iV par op nm=L0 at uy HP D4 uD
   clear z1 z2 z3 h1 h2 h3
  all_goals (
   have HS:=aa (show dM eA 51 (w+1) _ (fun _=>False) _ (L0++NL (ar.take 0))from by rw[List.take_zero,HNi.o,List.append_nil];exact uy.o)
   clear uy D4 Q3
   have x:=qb.o.cell
   go_wp2_with fail
   go_loopw [7,67] (fun v s8 wr=>∃ k:Nat,k≤ar.length∧s8=bU (k:Int)∧Hid (dM eA 51 (w+1) wr (fun _=>False) v (L0++NL (ar.take k)))∧Hid (cN wr w 47 [bU op,bU n,bV un,bV nm,bW A2 ar c2])∧Hid (Below w w wr)∧Hid (w.heap.size+1≤wr)) (fun _ s8 _=>ar.length - (intOf s8).toNat)
   case atStart=>exact⟨0,aaG _,rfl,HS,qb,gW,fG⟩
   case round=>
    clear HS qb gW fG x;obtain⟨k,hk,rfl,HS,HK,HB,fG⟩:=hrel;by_cases hlt:k<ar.length;(case pos=>obtain⟨bl,o,cs,hA,xM,hbl,ey,cT⟩:=(HA.o.bZ HB.o).get hlt;subst hA;have hmem:=aan hlt;have Ob:ar.take (k+1)=ar.take k++[ar[k]]:=aaz hlt;have j3:=aa (show NL (ar.take (k+1))=NL (ar.take k)++NE ar[k] by rw[Ob,Xg.o]);have Ry:=C9.o (ar.take (k+1));have hnl1:cR (ar.take (k+1))≤cR ar:=xU ar (k+1);rw[j3.o,aao]at Ry;have XV:=aa (show(NL (ar.take k)).length+(NE ar[k]).length≤1000000 by have:=HNL.o;omega);have Ai:=vB.o _ hmem (vH.o _ hmem);obtain⟨eU,yn,eV,eW,A3,c3,yr,qX,hes,_⟩:=cH.parts ey;generalize ar[k]=y at ey Ob Ai qX j3 XV Ry;subst hes;have g0:b_ wr bl (o+k*5) (bU eU):=cT 0 _ rfl;have g1:b_ wr bl (o+k*5+1) (bU yn):=cT 1 _ rfl;have g2:b_ wr bl (o+k*5+2) (bV eV):=cT 2 _ rfl;have g3:b_ wr bl (o+k*5+3) (bV eW):=cT 3 _ rfl;have g4:b_ wr bl (o+k*5+4) (bW A3 yr c3):=cT 4 _ rfl;have HY:=aa (show cN (wr.alloc (.cells #[bU eU,bU yn,bV eV,bV eW,bW A3 yr c3] 47)) wr 47 [bU eU,bU yn,bV eV,bV eW,bW A3 yr c3]from heap_alloc_new wr _);have fL:Below wr wr (wr.alloc (.cells #[bU eU,bU yn,bV eV,bV eW,bW A3 yr c3] 47)):=cS _;have tX:=aa (Ai _ _ (HCb.o _ _ (HCb.o _ _ V0.o HB.o) fL) (dh.keep ey (cB.cA fL)));have cG:=aa fL;clear cT ey qX fL Ai Ob hnl1 Ry;go_upto_region 13 with fail;generalize (wr.alloc (.cells #[bU eU,bU yn,bV eV,bV eW,bW A3 yr c3] 47))=wd at HY tX cG ⊢;clear g0 g1 g2 g3 g4;have z1:=HY.o.cell;obtain⟨ys,hys⟩:∃ ys,ys=NE y:=⟨_,rfl⟩;rw[← hys]at tX j3 XV;obtain⟨xs,hxs⟩:∃ xs,xs=L0++NL (ar.take k):=⟨_,rfl⟩;rw[← hxs]at HS;have HXS:=aa hxs;have HXL:=aa (show xs.length+ys.length≤2000000 by rw[hxs,aao];have:=uD.o;have:=XV.o;omega);clear hys hxs;go_wp2_with (first|(go_at_call 57;refine tX.o.mono ?_;rintro e w5 ⟨A5,c5,rfl,qU,ew⟩;have HSQ:=aa qU;have dO:=aa (cG.o.trans (ew.mono cG.o.size));clear qU ew z1)|(at_builtin;refine dD (R:=eA) (S:=fun _=>False) (xs:=xs) (ys:=ys) (T:=51) (t:=35) (B:=w.heap.size+1) rfl (.tmp 71) (.tmp 75) 35 rfl rfl tu (HS.o.bZ dO.o) rfl _ _ _ rfl rfl (Uo HSQ.o) ?hl ?hB rfl (n:=xs.length+ys.length) rfl ?_));(case hl=>have:=HXL.o;omega);(case hB=>have:=fG.o;have:=dO.o.size;omega);intro A9 c9 w9 DX HG;have Mz:=aa (show dM eA 51 (w+1) w9 (fun _=>False) (bW A9 (xs.length+ys.length) c9) (L0++NL (ar.take (k+1)))from by rw[j3.o, ← List.append_assoc, ← HXS.o];exact HG.o.own);have HKw:=aa (HK.o.bZ dO.o HK.o.lt);have HK9:=aa (jR HG.o.turn (fun e=>by have:=(HS.o.lt _ e.symm).1;omega) HKw.o);have hbX:Below w w w9:=(HB.o.trans (dO.o.mono HB.o.size)).grown HG.o.turn (aaC HB.o.size dO.o.size) (fun j e=>by have:=(HS.o.lt j e).1;omega);have jt:=aa hbX;have HLe9:=aa (show w.heap.size+1≤w9 by have:=HG.o.turn.size;have:=dO.o.size;have:=fG.o;omega);clear hbX HG HS HK HB fG dO HKw HSQ tX HY cG j3;go_wp2;go_roundw;exact⟨k+1,by omega,rfl,Mz,HK9,jt,HLe9⟩;simp[intOf];omega);(obtain rfl:k=ar.length:=by omega);rw[List.take_length]at HS;obtain⟨A9,c9,hv,_⟩:=HS.o.slice;subst hv;go_wp2;exact HP.o (.returned (bW A9 (L0++NL ar).length c9)) _ ⟨A9,c9,rfl,(HS.o.mono (fun b _ (h:False)=>h.elim)).sq fun b _ h=>by omega,HB.o⟩)
end Go.Proofs.YtfppbjfnllhgcaaGreat
namespace Ln
open Go.Proofs.YtfppbjfnllhgcaaGreat Kb Sh
open Classical in
noncomputable def ku (s:cL) (k m:Nat) (z:eX):List eX:=
 if(∃ i,i<k∧(s.cells[i]?).map (fun c=>((4:Int),c.name))=some z)∨(∃ i,i<m∧(s.funcs[i]?).map (fun c=>((3:Int),c.name))=some z)then EW s z else[]
theorem MM (s:cL) (z:eX):ku s 0 0 z=[]:=by
 unfold ku;rw[if_neg];rintro(⟨i,h,_⟩|⟨i,h,_⟩)<;>omega
theorem MN (s:cL) (z:eX):ku s s.cells.length s.funcs.length z=EW s z:=by
 unfold ku;split
 (·rfl);next h=>
 obtain⟨z1,z2⟩:=z;symm;unfold EW;by_cases h4:z1=4
 ·subst h4;rw[if_pos rfl];cases hf:s.cells.find? fun c=>c.name==z2 with
  |none=>rfl
  |some c=>
   obtain⟨i,hi,e⟩:=List.getElem_of_mem (List.mem_of_find?_eq_some hf);have hn:c.name=z2:=(by simpa using List.find?_some hf);exact absurd (Or.inl ⟨i,hi,by rw[List.getElem?_eq_getElem hi,e,Option.map_some,hn]⟩) h
 rw[if_neg (show ¬(z1,z2).1=4 from h4)];by_cases h3:z1=3
 ·subst h3;rw[if_pos rfl];cases hf:s.funcs.find? fun c=>c.name==z2 with
  |none=>rfl
  |some c=>
   obtain⟨i,hi,e⟩:=List.getElem_of_mem (List.mem_of_find?_eq_some hf);have hn:c.name=z2:=(by simpa using List.find?_some hf);exact absurd (Or.inr ⟨i,hi,by rw[List.getElem?_eq_getElem hi,e,Option.map_some,hn]⟩) h
 rw[if_neg (show ¬(z1,z2).1=3 from h3)]
theorem MO {s:cL} {k m:Nat} (hk:k<s.cells.length) (z:eX):ku s (k+1) m z=if z=(4,s.cells[k].name)then EW s (4,s.cells[k].name)else ku s k m z:=by
 by_cases h:z=(4,s.cells[k].name)
 (·subst h;rw[if_pos rfl];unfold ku;rw[if_pos (Or.inl ⟨k,by omega,by rw[List.getElem?_eq_getElem hk];rfl⟩)]);rw[if_neg h];unfold ku;congr 1;apply propext;constructor
 ·rintro(⟨i,h1,h2⟩|h1)
  ·by_cases e:i=k
   (·subst e;rw[List.getElem?_eq_getElem hk,Option.map_some]at h2;exact absurd (Option.some.inj h2).symm h);exact .inl ⟨i,by omega,h2⟩
  exact .inr h1
 rintro(⟨i,h1,h2⟩|h1)
 (·exact .inl ⟨i,by omega,h2⟩);exact .inr h1
theorem MP {s:cL} {k m:Nat} (hk:m<s.funcs.length) (z:eX):ku s k (m+1) z=if z=(3,s.funcs[m].name)then EW s (3,s.funcs[m].name)else ku s k m z:=by
 by_cases h:z=(3,s.funcs[m].name)
 (·subst h;rw[if_pos rfl];unfold ku;rw[if_pos (Or.inr ⟨m,by omega,by rw[List.getElem?_eq_getElem hk];rfl⟩)]);rw[if_neg h];unfold ku;congr 1;apply propext;constructor
 ·rintro(h1|⟨i,h1,h2⟩)
  (·exact .inl h1);by_cases e:i=m
  (·subst e;rw[List.getElem?_eq_getElem hk,Option.map_some]at h2;exact absurd (Option.some.inj h2).symm h);exact .inr ⟨i,by omega,h2⟩
 rintro(h1|⟨i,h1,h2⟩)
 (·exact .inl h1);exact .inr ⟨i,by omega,h2⟩
end Ln
namespace Go.Proofs.YtfppbjfnllhgcaaGreat
section
open Go Go.RowKit Go.Maps Go.WideMaps Bg Go.Proofs Sh Kb Ln
section
variable {ops:Array Oper} {o:Oper} {a:Act} {w:World} {K:Act→World→Prop} {Q:Exit→Act→World→Prop} {E:Prop}
theorem Fh (hg:o.guard=none) (m x v:Operand) (t:TypeId) (hop:o.op=Op.mapUpdate t m x v) (e:TypeId) (ht:Tryz.prog.underlying t=some (.map 51 e)) (b n:Nat) (f:gZ→Option Value) (hm:a.eval m= .map (some b)) (hown:iq w b n f) (hn:n<maxLen) (k:gZ) (u:Value) (hx:a.eval x= .agg #[bU k.1,bV k.2]) (hv:a.eval v=u) (hk:h_ k) (hK:∀ w',iq w' b (n+1) (fun k'=>if k'=k then some u else f k')→w.grownBy w' (some b)→K (a.put o.dst undef) w'):if Region.wanted o (yielded ops a.tmps)=true then Oper.wp prog o a w K Q else E:=by
 have hw:Region.wanted o (yielded ops a.tmps)=true:=(by simp[Region.wanted,hg]);rw[if_pos hw];obtain⟨D,h1,h2,h3⟩:=hown;obtain⟨w',hrun,r1,r2⟩:=h1.update n9 ht hn (nk hk) (d:= .held u) (ps:=[]) (R:=kR) rfl;unfold Oper.wp;simp[execOp,hop,hm,hx,hv,hrun,Result.andThen];refine hK w' ⟨_,r1,?_,fun k' hk'=>?_⟩ r2
 (·obtain⟨es,rfl⟩:=h2;exact⟨_,rfl⟩);by_cases hkk:k'=k
 ·subst hkk;simp only[if_true];refine⟨has_put_same h2 (GP k') _,fun v z h=>?_,fun z h=>?_⟩
  (·have hv:u=v:=Option.some.inj h;rw[← hv];exact atKey_put_same h2 (GP k') _ _);exact absurd h ai
 simp only[if_neg hkk];have hne:mI k'≠mI k:=fun e=>hkk (Dg hk' hk e);obtain⟨p1,p2,p3⟩:=h3 k' hk';exact⟨(has_put_other hne _).trans p1,fun v z h=>(atKey_put_other hne _ _).trans (p2 v z h),fun z h=>(atKey_put_other hne _ _).trans (p3 z h)⟩
end
def GR (w:World) (gm n:Nat) (gg:eX→List eX):Prop:=∃ G,iq w gm n G∧∀ z,h_ z→∃ A c,(G z).getD cD=bW A (gg z).length c∧Sq eA w (fun b=>gm<b) A (gg z)
theorem GR.made (w:World) {gg:eX→List eX} (h:∀ z,gg z=[]):GR (w.alloc (.map #[] 0)) w 0 gg:=
 ⟨_,iq.made w,fun z _=>⟨none,0,by rw[h z];rfl,by rw[h z];exact Sq.nil⟩⟩
theorem GR.bZ {w w':World} {gm n:Nat} {gg:eX→List eX} (h:GR w gm n gg) (hb:Below w w w'):GR w' gm n gg:=by
 obtain⟨G,h1,h2⟩:=h;refine⟨G,h1.bZ hb h1.lt,fun z hz=>?_⟩;obtain⟨A,c,e,hs⟩:=h2 z hz;exact⟨A,c,e,hs.bZ hb⟩
theorem GR.at_ {w:World} {gm n:Nat} {gg:eX→List eX} (h:GR w gm n gg):Dj w gm gg:=by
 obtain⟨G,h1,h2⟩:=h;refine⟨n,G,h1,fun z hz=>?_⟩;obtain⟨A,c,e,hs⟩:=h2 z hz;exact⟨A,c,e,hs.all⟩
theorem GR.lt {w:World} {gm n:Nat} {gg:eX→List eX} (h:GR w gm n gg):gm<w.heap.size:=h.elim fun _ h=>h.1.lt
theorem GR.put {w w':World} {gm n:Nat} {gg gg':eX→List eX} {G:eX→Option Value} {x:eX} {A:Option Addr} {c:Nat} {l:List eX} (h:∀ z,h_ z→∃ A c,(G z).getD cD=bW A (gg z).length c∧Sq eA w (fun b=>gm<b) A (gg z)) (hM:iq w' gm (n+1) (fun k'=>if k'=x then some (bW A l c)else G k')) (hg:w.grownBy w' (some gm)) (hs:Sq eA w (fun b=>gm<b) A l) (he:∀ z,gg' z=if z=x then l else gg z):GR w' gm (n+1) gg':=by
 refine⟨_,hM,fun z hz=>?_⟩;(have hk:cB (fun b=>gm<b) w w':=cB.fB hg fun b hb e=>by injection e with e;omega);by_cases hx:z=x
 (·have e1:gg' z=l:=(by rw[he z,if_pos hx]);rw[e1];exact⟨A,c,by simp only[if_pos hx];rfl,hs.keep hk⟩);have e1:gg' z=gg z:=(by rw[he z,if_neg hx]);rw[e1];obtain⟨A',c',e,hs'⟩:=h z hz;exact⟨A',c',by simp only[if_neg hx];exact e,hs'.keep hk⟩
theorem JV {iV:ByteArray→Bool} {par:Bool} (N:Nat):∀ x:cw,cE x≤N→lV x→∀ z∈fJ iV par x,h_ z:=by
 induction N with
 |zero=>intro x hx;have:=dB x;omega
 |succ N ih=>
  intro x hx hsm z hz;obtain⟨op,n,u,nm,l⟩:=x;have hn:cE (.mk op n u nm l)=1+cR l:=aM;have hnm:nm.size≤maxLen:=(by unfold lV at hsm;exact hsm.2.1);have hS:∀ y∈l,lV y:=(by unfold lV at hsm;exact hsm.2.2.mem);rw[fJ,aar]at hz;rcases hz with hz|hz
  ·unfold jC at hz;split at hz
   (·rw[aau.1 hz];exact⟨(by decide:(Lit.int .i64 2).wf=true),hnm⟩);split at hz
   (·rw[aau.1 hz];exact⟨(by decide:(Lit.int .i64 3).wf=true),hnm⟩);split at hz
   ·split at hz
    (·rw[aau.1 hz];exact⟨(by decide:(Lit.int .i64 4).wf=true),hnm⟩);rw[aau.1 hz];exact⟨(by decide:(Lit.int .i64 1).wf=true),hnm⟩
   simp at hz
  obtain⟨y,hy,hz⟩:=(uZ l).1 hz;exact ih y aN (hS y hy) z hz
theorem yQ {α β:Type} {f:α→List β} {n:Nat}:∀ {l:List α},(∀ x∈l,(f x).length≤n)→(l.flatMap f).length≤l.length*n
 |[],_=>by simp
 |a :: l,h=>by
  rw[List.flatMap_cons,aao,List.length_cons,Nat.add_mul,Nat.one_mul];have:=h a ai;have:=yQ (l:=l) fun x hx=>h x (by simp[hx]);omega
end
section
open Go Go.RowKit Bg Go.Proofs Sh Kb
def tyL (t:Bool) (d0 d1 d2 d3 d4 d5:Int):List Value:=[.bool t,bU d0,bU d1,bU d2,bU d3,bU d4,bU d5]
theorem MQ (d0 d1 d2 d3 d4 d5:Int) (w:World):Calls prog 275 #[.agg #[bU d0,bU d1,bU d2,bU d3,bU d4,bU d5]] w fun e w'=>e= .returned (.agg (tyL false d0 d1 d2 d3 d4 d5).toArray)∧Below w w w':=by
 unfold tyL;go_enter func275,ntmps275;have hk:cN ((w.alloc (.cells #[bU d0,bU d1,bU d2,bU d3,bU d4,bU d5] 91)).alloc (.cells #[.bool false,bU d0,bU d1,bU d2,bU d3,bU d4,bU d5] 137)) (w+1) 137 [.bool false,bU d0,bU d1,bU d2,bU d3,bU d4,bU d5]:=by
  have:=heap_alloc_new (w.alloc (.cells #[bU d0,bU d1,bU d2,bU d3,bU d4,bU d5] 91)) (.cells #[.bool false,bU d0,bU d1,bU d2,bU d3,bU d4,bU d5] 137)
  rwa [aaI]at this
 have z:=hk.cell;have hb:Below w w ((w.alloc (.cells #[bU d0,bU d1,bU d2,bU d3,bU d4,bU d5] 91)).alloc (.cells #[.bool false,bU d0,bU d1,bU d2,bU d3,bU d4,bU d5] 137)):=(cS _).alloc aJ _;go_wp2_with fail;exact bodyPost_ret (by simp[results,results275,go_sem,z]) rfl ⟨rfl,hb⟩
theorem Qb (w:World):Calls prog 278 #[] w fun e w'=>e= .returned (.agg (tyL true 0 0 0 0 0 0).toArray)∧Below w w w':=by
 unfold tyL;go_enter func278,ntmps278;have hk:cN (w.alloc (.cells #[.bool true,bU 0,bU 0,bU 0,bU 0,bU 0,bU 0] 137)) w 137 [.bool true,bU 0,bU 0,bU 0,bU 0,bU 0,bU 0]:=heap_alloc_new w _;have z:=hk.cell;have hb:Below w w (w.alloc (.cells #[.bool true,bU 0,bU 0,bU 0,bU 0,bU 0,bU 0] 137)):=cS _;go_wp2_with fail;exact bodyPost_ret (by simp[results,results278,go_sem,z]) rfl ⟨rfl,hb⟩
end
section
open Go Go.RowKit Go.Proofs
theorem Uq (d:Nat) (a0 a1 a2 a3 a4 a5 b0 b1 b2 b3 b4 b5:Int) (W:World):(Op.equalIn (d+2) 91 (.agg #[bU a0,bU a1,bU a2,bU a3,bU a4,bU a5]) (.agg #[bU b0,bU b1,bU b2,bU b3,bU b4,bU b5])).run prog W= .ok (decide ([a0,a1,a2,a3,a4,a5]=[b0,b1,b2,b3,b4,b5])) W:=by
 have hI:∀ (a b:Int) (w:World),(Op.equalIn (d+1) 3 (bU a) (bU b)).run prog w= .ok (a==b) w:=fun a b w=>run_equalIn_int w d 3 .i64 .i64 a b underlying3;(have pa0:∀ w,(part 3 #[bU a0,bU a1,bU a2,bU a3,bU a4,bU a5] 0).run prog w= .ok (bU a0) w:=fun w=>by kernel_rfl);(have pa1:∀ w,(part 3 #[bU a0,bU a1,bU a2,bU a3,bU a4,bU a5] 1).run prog w= .ok (bU a1) w:=fun w=>by kernel_rfl);(have pa2:∀ w,(part 3 #[bU a0,bU a1,bU a2,bU a3,bU a4,bU a5] 2).run prog w= .ok (bU a2) w:=fun w=>by kernel_rfl);(have pa3:∀ w,(part 3 #[bU a0,bU a1,bU a2,bU a3,bU a4,bU a5] 3).run prog w= .ok (bU a3) w:=fun w=>by kernel_rfl);(have pa4:∀ w,(part 3 #[bU a0,bU a1,bU a2,bU a3,bU a4,bU a5] 4).run prog w= .ok (bU a4) w:=fun w=>by kernel_rfl);(have pa5:∀ w,(part 3 #[bU a0,bU a1,bU a2,bU a3,bU a4,bU a5] 5).run prog w= .ok (bU a5) w:=fun w=>by kernel_rfl);(have pb0:∀ w,(part 3 #[bU b0,bU b1,bU b2,bU b3,bU b4,bU b5] 0).run prog w= .ok (bU b0) w:=fun w=>by kernel_rfl);(have pb1:∀ w,(part 3 #[bU b0,bU b1,bU b2,bU b3,bU b4,bU b5] 1).run prog w= .ok (bU b1) w:=fun w=>by kernel_rfl);(have pb2:∀ w,(part 3 #[bU b0,bU b1,bU b2,bU b3,bU b4,bU b5] 2).run prog w= .ok (bU b2) w:=fun w=>by kernel_rfl);(have pb3:∀ w,(part 3 #[bU b0,bU b1,bU b2,bU b3,bU b4,bU b5] 3).run prog w= .ok (bU b3) w:=fun w=>by kernel_rfl);(have pb4:∀ w,(part 3 #[bU b0,bU b1,bU b2,bU b3,bU b4,bU b5] 4).run prog w= .ok (bU b4) w:=fun w=>by kernel_rfl);(have pb5:∀ w,(part 3 #[bU b0,bU b1,bU b2,bU b3,bU b4,bU b5] 5).run prog w= .ok (bU b5) w:=fun w=>by kernel_rfl);(have hsz:∀ w,(sizeOf 3).run prog w= .ok 1 w:=fun w=>by kernel_rfl);unfold Op.equalIn;simp only[Sem.run_bind,run_underlying underlying91,Result.andThen_ok,hsz,Std.Legacy.Range.forIn_eq_forIn_range',Std.Legacy.Range.size];simp only[show(6 - 0+1 - 1) / 1=6 from rfl,List.range',List.forIn_cons,List.forIn_nil,Sem.run_bind,Nat.mul_one,Nat.zero_add,Nat.reduceAdd,Nat.reduceMul,pa0,pa1,pa2,pa3,pa4,pa5,pb0,pb1,pb2,pb3,pb4,pb5,Result.andThen_ok,hI];simp[Sem.run_bind,pa0,pa1,pa2,pa3,pa4,pa5,pb0,pb1,pb2,pb3,pb4,pb5,hI,Result.andThen_ok];clear pa0 pa1 pa2 pa3 pa4 pa5 pb0 pb1 pb2 pb3 pb4 pb5 hI hsz;by_cases h0:a0=b0<;>by_cases h1:a1=b1<;>by_cases h2:a2=b2<;>by_cases h3:a3=b3<;>by_cases h4:a4=b4<;>by_cases h5:a5=b5<;>simp[h0,h1,h2,h3,h4,h5,Result.andThen_ok]
theorem Bl (a0 a1 a2 a3 a4 a5 b0 b1 b2 b3 b4 b5:Int) (W:World):(binOp .neq 91 (.agg #[bU a0,bU a1,bU a2,bU a3,bU a4,bU a5]) (.agg #[bU b0,bU b1,bU b2,bU b3,bU b4,bU b5])).run prog W= .ok (.bool (!decide ([a0,a1,a2,a3,a4,a5]=[b0,b1,b2,b3,b4,b5]))) W:=by
 rw[run_neq_struct,show(10000:Nat)=9998+2 from rfl,Uq];rfl
end
open Go Go.RowKit Bg Go.Proofs Sh Kb Ck
def pX (t:nN):List Value:= .bool t.truth :: ig t.jQ
def Am (r:Int×nN) (w:World) (e:Ending) (w':World):Prop:=e= .returned (.tuple #[.agg (pX r.2).toArray,bU r.1])∧Below w w w'
theorem dQ:(Tryz.prog.info? 137).map (·.size)=some 7:=by kernel_rfl
theorem yR (a b r:nN) (w:World) (ha:a.jQ.length=6) (hb:b.jQ.length=6):Calls prog 277 #[.agg (pX a).toArray,.agg (pX b).toArray,.agg (pX r).toArray] w (Am (jU a b r) w):=by
 obtain⟨ta,da⟩:=a;obtain⟨tb,db⟩:=b;obtain⟨tr,dr⟩:=r;obtain⟨a0,a1,a2,a3,a4,a5,rfl⟩:=six ha;obtain⟨b0,b1,b2,b3,b4,b5,rfl⟩:=six hb;generalize hP:Am (jU ⟨ta,[a0,a1,a2,a3,a4,a5]⟩ ⟨tb,[b0,b1,b2,b3,b4,b5]⟩ ⟨tr,dr⟩) w=P;have HP:=aa (show ∀ e w',Am (jU ⟨ta,[a0,a1,a2,a3,a4,a5]⟩ ⟨tb,[b0,b1,b2,b3,b4,b5]⟩ ⟨tr,dr⟩) w e w'→P e w' from fun e w' h=>hP▸h);have HR:=aa (show pX ⟨tr,dr⟩=[.bool tr,.int .i64 (dr.getD 0 0),.int .i64 (dr.getD 1 0),.int .i64 (dr.getD 2 0),.int .i64 (dr.getD 3 0),.int .i64 (dr.getD 4 0),.int .i64 (dr.getD 5 0)]from rfl);clear hP ha hb;simp only[pX,ig,aal,aak];generalize dr.getD 0 0=r0 at HR ⊢;generalize dr.getD 1 0=r1 at HR ⊢;generalize dr.getD 2 0=r2 at HR ⊢;generalize dr.getD 3 0=r3 at HR ⊢;generalize dr.getD 4 0=r4 at HR ⊢;generalize dr.getD 5 0=r5 at HR ⊢;go_enter func277,ntmps277;go_upto_region 1 with fail;obtain⟨w4,hw4,K0,K1,K2,K3,HB⟩:=T5 w [.bool ta,.int .i64 a0,.int .i64 a1,.int .i64 a2,.int .i64 a3,.int .i64 a4,.int .i64 a5] [.bool tb,.int .i64 b0,.int .i64 b1,.int .i64 b2,.int .i64 b3,.int .i64 b4,.int .i64 b5] [.bool tr,.int .i64 r0,.int .i64 r1,.int .i64 r2,.int .i64 r3,.int .i64 r4,.int .i64 r5] [.bool false,.int .i64 0,.int .i64 0,.int .i64 0,.int .i64 0,.int .i64 0,.int .i64 0] 137 137 137 137;rw[hw4];clear hw4;have z0:=K0.o.cell;have z1:=K1.o.cell;have z2:=K2.o.cell;have rR:=Bl a0 a1 a2 a3 a4 a5 b0 b1 b2 b3 b4 b5;by_cases ht:ta=true∨tb=true;case pos=>
  have HE:=aa (show jU ⟨ta,[a0,a1,a2,a3,a4,a5]⟩ ⟨tb,[b0,b1,b2,b3,b4,b5]⟩ ⟨tr,dr⟩=(13,zT) by unfold jU;rw[if_pos (by simpa using ht)]);rcases ht with rfl|rfl
  (·go_wp2_with (refine cO rfl _ _ _ rfl _ _ rfl rfl _ K3.o dQ rfl rfl ?_;intro w5 K5 gj);have dO:=aa (cC HB.o gj aac af);exact bodyPost_ret (cM rfl _ _ _ 137 _ _ _ rfl rfl K5.o underlying137 rfl dQ) rfl (HP.o _ _ ⟨by rw[HE.o];rfl,dO.o⟩));cases ta;all_goals
   go_wp2_with (refine cO rfl _ _ _ rfl _ _ rfl rfl _ K3.o dQ rfl rfl ?_;intro w5 K5 gj);have dO:=aa (cC HB.o gj aac af);exact bodyPost_ret (cM rfl _ _ _ 137 _ _ _ rfl rfl K5.o underlying137 rfl dQ) rfl (HP.o _ _ ⟨by rw[HE.o];rfl,dO.o⟩)
 (obtain⟨rfl,rfl⟩:ta=false∧tb=false:=by simpa using ht);by_cases hd:[a0,a1,a2,a3,a4,a5]=[b0,b1,b2,b3,b4,b5];(case pos=>have HE:=aa (show jU ⟨false,[a0,a1,a2,a3,a4,a5]⟩ ⟨false,[b0,b1,b2,b3,b4,b5]⟩ ⟨tr,dr⟩=(0,⟨tr,dr⟩) by unfold jU;rw[if_neg ai,if_pos hd]);(have hq:∀ W,(binOp .neq 91 (.agg #[bU a0,bU a1,bU a2,bU a3,bU a4,bU a5]) (.agg #[bU b0,bU b1,bU b2,bU b3,bU b4,bU b5])).run prog W= .ok (.bool false) W:=fun W=>by rw[rR,decide_eq_true hd];rfl);clear rR hd ht;go_wp2_with (refine cO rfl _ _ _ rfl _ _ rfl rfl _ K3.o dQ rfl rfl ?_;intro w5 K5 gj);have dO:=aa (cC HB.o gj aac af);exact bodyPost_ret (cM rfl _ _ _ 137 _ _ _ rfl rfl K5.o underlying137 rfl dQ) rfl (HP.o _ _ ⟨by rw[HE.o,HR.o];rfl,dO.o⟩));have HE:=aa (show jU ⟨false,[a0,a1,a2,a3,a4,a5]⟩ ⟨false,[b0,b1,b2,b3,b4,b5]⟩ ⟨tr,dr⟩=(14,zT) by unfold jU;rw[if_neg ai,if_neg hd]);(have hq:∀ W,(binOp .neq 91 (.agg #[bU a0,bU a1,bU a2,bU a3,bU a4,bU a5]) (.agg #[bU b0,bU b1,bU b2,bU b3,bU b4,bU b5])).run prog W= .ok (.bool true) W:=fun W=>by rw[rR,decide_eq_false hd];rfl);clear rR hd ht;go_wp2_with (refine cO rfl _ _ _ rfl _ _ rfl rfl _ K3.o dQ rfl rfl ?_;intro w5 K5 gj);have dO:=aa (cC HB.o gj aac af);exact bodyPost_ret (cM rfl _ _ _ 137 _ _ _ rfl rfl K5.o underlying137 rfl dQ) rfl (HP.o _ _ ⟨by rw[HE.o];rfl,dO.o⟩)
theorem xC (d:List Int) (w:World):Calls prog 275 #[.agg (ig d).toArray] w fun e w'=>e= .returned (.agg (pX (Ck.oq d)).toArray)∧Below w w w':=MQ _ _ _ _ _ _ w
theorem Dm (w:World):Calls prog 278 #[] w fun e w'=>e= .returned (.agg (pX MC).toArray)∧Below w w w':=Qb w
theorem Qc (div:Bool) (a b:List Int) (W:World) (ha:a.length=6) (hb:b.length=6):Calls prog (if div then 303 else 302) #[.agg (ig a).toArray,.agg (ig b).toArray] W (tj (lZ div a b) W):=by
 cases div
 (·exact Xi a b W ha hb);exact Xk a b W ha hb
theorem Qd {div:Bool} {a b:List Int}:(lZ div a b).2.length=6:=by
 unfold lZ;by_cases h:(dL a&&dL b)=true
 ·rw[if_pos h];cases div
  ·by_cases h2:dL (addD a b)=true
   (·simp only[Bool.false_eq_true,if_false,if_pos h2];rfl);simp only[Bool.false_eq_true,if_false,if_neg h2];rfl
  by_cases h2:dL (subD a b)=true
  (·simp only[if_true,if_pos h2];rfl);simp only[if_true,if_neg h2];rfl
 rw[if_neg h];rfl
theorem JW (op:Int) (a b:nN) (w:World) (ha:a.jQ.length=6) (hb:b.jQ.length=6):Calls prog 279 #[bU op,.agg (pX a).toArray,.agg (pX b).toArray] w (Am (xe op a b) w):=by
 obtain⟨ta,da⟩:=a
 obtain⟨tb,db⟩:=b
 generalize hP:Am (xe op ⟨ta,da⟩ ⟨tb,db⟩) w=P
 have HP:=aa (show ∀ e w',Am (xe op ⟨ta,da⟩ ⟨tb,db⟩) w e w'→P e w' from fun e w' h=>hP▸h)
 have HR:Hid (xe op ⟨ta,da⟩ ⟨tb,db⟩=if ta||tb then(13,zT)else if(lZ (op==9) da db).1=0 then(0,Ck.oq (lZ (op==9) da db).2)else(14,zT)):=aa rfl
 clear hP
 have HJ:=aa (fun W=>Qc (op==9) da db W ha hb)
 generalize lZ (op==9) da db=r at HJ HR
 generalize xe op ⟨ta,da⟩ ⟨tb,db⟩=q at HP HR
 obtain⟨re,rd⟩:=r
 have HN:=aa (fun W=>xC rd W)
 replace HR:Hid (q=if ta||tb then(13,zT)else if re=0 then(0,Ck.oq rd)else(14,zT)):=HR
 have HT:Hid (pX (Ck.oq rd)=[.bool false,bU (rd.getD 0 0),bU (rd.getD 1 0),bU (rd.getD 2 0),bU (rd.getD 3 0),bU (rd.getD 4 0),bU (rd.getD 5 0)]):=aa rfl
 rw[HT.o]at HN
 replace HJ:Hid (∀ W,Calls prog (if(op==9)=true then 303 else 302) #[.agg (ig da).toArray,.agg (ig db).toArray] W fun e w'=>e= .returned (.tuple #[.agg #[bU (rd.getD 0 0),bU (rd.getD 1 0),bU (rd.getD 2 0),bU (rd.getD 3 0),bU (rd.getD 4 0),bU (rd.getD 5 0)],bU re])∧Below W W w'):=HJ
 simp only[pX,ig]at HJ HN ⊢
 clear ha hb
 generalize rd.getD 0 0=c0 at HJ HN HT
 generalize rd.getD 1 0=c1 at HJ HN HT
 generalize rd.getD 2 0=c2 at HJ HN HT
 generalize rd.getD 3 0=c3 at HJ HN HT
 generalize rd.getD 4 0=c4 at HJ HN HT
 generalize rd.getD 5 0=c5 at HJ HN HT
 generalize da.getD 0 0=a0 at HJ ⊢
 generalize da.getD 1 0=a1 at HJ ⊢
 generalize da.getD 2 0=a2 at HJ ⊢
 generalize da.getD 3 0=a3 at HJ ⊢
 generalize da.getD 4 0=a4 at HJ ⊢
 generalize da.getD 5 0=a5 at HJ ⊢
 generalize db.getD 0 0=b0 at HJ ⊢
 generalize db.getD 1 0=b1 at HJ ⊢
 generalize db.getD 2 0=b2 at HJ ⊢
 generalize db.getD 3 0=b3 at HJ ⊢
 generalize db.getD 4 0=b4 at HJ ⊢
 generalize db.getD 5 0=b5 at HJ ⊢
 go_enter func279,ntmps279
 go_upto_region 1 with fail
 obtain⟨w1,hw1,K0,K1,K2,HB⟩:=oH w [.bool ta,.int .i64 a0,.int .i64 a1,.int .i64 a2,.int .i64 a3,.int .i64 a4,.int .i64 a5] [.bool tb,.int .i64 b0,.int .i64 b1,.int .i64 b2,.int .i64 b3,.int .i64 b4,.int .i64 b5] [.bool false,.int .i64 0,.int .i64 0,.int .i64 0,.int .i64 0,.int .i64 0,.int .i64 0] 137 137 137
 rw[hw1]
 clear hw1
 have x0:=K0.o.cell
 have x1:=K1.o.cell
 by_cases ht:ta=true∨tb=true
 case pos=>
  have HE:=aa (show q=(13,zT) by rw[HR.o,if_pos (by simpa using ht)]);clear HJ HN;rcases ht with rfl|rfl
  (·go_wp2_with (refine cO rfl _ _ _ rfl _ _ rfl rfl _ K2.o dQ rfl rfl ?_;intro w5 K5 gj);exact bodyPost_ret (cM rfl _ _ _ 137 _ _ _ rfl rfl K5.o underlying137 rfl dQ) rfl (HP.o _ _ ⟨by rw[HE.o];rfl,cC HB.o gj aac af⟩));cases ta;all_goals
   go_wp2_with (refine cO rfl _ _ _ rfl _ _ rfl rfl _ K2.o dQ rfl rfl ?_;intro w5 K5 gj);exact bodyPost_ret (cM rfl _ _ _ 137 _ _ _ rfl rfl K5.o underlying137 rfl dQ) rfl (HP.o _ _ ⟨by rw[HE.o];rfl,cC HB.o gj aac af⟩)
 case neg=>
  obtain⟨rfl,rfl⟩:ta=false∧tb=false:=by simpa using ht
  clear ht
  by_cases h9:op=9
  case' pos=>
   subst h9
   replace HJ:Hid (∀ (W:World),Calls prog 303 #[.agg #[bU a0,bU a1,bU a2,bU a3,bU a4,bU a5],.agg #[bU b0,bU b1,bU b2,bU b3,bU b4,bU b5]] W fun e w'=>e= .returned (.tuple #[.agg #[bU c0,bU c1,bU c2,bU c3,bU c4,bU c5],bU re])∧Below W W w'):=HJ
   go_upto_region 6 with fail
  case' neg=>
   have z9:(op==9)=false:=by simpa using h9
   rw[z9]at HJ
   replace HJ:Hid (∀ (W:World),Calls prog 302 #[.agg #[bU a0,bU a1,bU a2,bU a3,bU a4,bU a5],.agg #[bU b0,bU b1,bU b2,bU b3,bU b4,bU b5]] W fun e w'=>e= .returned (.tuple #[.agg #[bU c0,bU c1,bU c2,bU c3,bU c4,bU c5],bU re])∧Below W W w'):=HJ
   clear h9
   go_upto_region 6 with fail
  all_goals (
   by_cases wT:re=0
   case pos=>
    have HE:=aa (show q=(0,Ck.oq rd) by rw[HR.o,if_neg ai,if_pos wT]);subst wT;go_wp2_with (first|(go_at_call 275;refine(HN.o _).mono ?_;rintro e w6 ⟨rfl,eM⟩;have K6:=aa (K3.o.bZ eM K3.o.lt);have eo:=aa (eE.o.trans (eM.mono eE.o.size));clear eM)|(refine(HJ.o _).mono ?_;rintro e w2 ⟨rfl,hb2⟩;have K3:=aa ((K2.o.bZ hb2 K2.o.lt).alloc (.cells #[bU c0,bU c1,bU c2,bU c3,bU c4,bU c5] 91));have eE:=aa ((HB.o.trans (hb2.mono HB.o.size)).alloc (HB.o.trans (hb2.mono HB.o.size)).size (.cells #[bU c0,bU c1,bU c2,bU c3,bU c4,bU c5] 91));clear hb2 x0 x1)|(refine cO rfl _ _ _ rfl _ _ rfl rfl _ K6.o dQ rfl rfl ?_;intro w5 K5 gj));exact bodyPost_ret (cM rfl _ _ _ 137 _ _ _ rfl rfl K5.o underlying137 rfl dQ) rfl (HP.o _ _ ⟨by rw[HE.o,HT.o];rfl,cC eo.o gj aac af⟩)
   case neg=>
    have HE:=aa (show q=(14,zT) by rw[HR.o,if_neg ai,if_neg wT]);have zr:(re != 0)=true:=(by simpa using wT);clear wT HN;go_wp2_with (first|(refine(HJ.o _).mono ?_;rintro e w2 ⟨rfl,hb2⟩;have K3:=aa ((K2.o.bZ hb2 K2.o.lt).alloc (.cells #[bU c0,bU c1,bU c2,bU c3,bU c4,bU c5] 91));have eE:=aa ((HB.o.trans (hb2.mono HB.o.size)).alloc (HB.o.trans (hb2.mono HB.o.size)).size (.cells #[bU c0,bU c1,bU c2,bU c3,bU c4,bU c5] 91));clear hb2 x0 x1)|(refine cO rfl _ _ _ rfl _ _ rfl rfl _ K3.o dQ rfl rfl ?_;intro w5 K5 gj));exact bodyPost_ret (cM rfl _ _ _ 137 _ _ _ rfl rfl K5.o underlying137 rfl dQ) rfl (HP.o _ _ ⟨by rw[HE.o];rfl,cC eE.o gj aac af⟩))
def GS (d:List Int):Value:= .agg (ig d).toArray
def mJ (w:World) (g:Nat) (l:List fC):Prop:=∃ n,fM w g n fun nm=>(iR l nm).map GS
def Ol (l:List fC):Prop:=∀ nm d,iR l nm=some d→d.length=6
theorem mJ.bZ {w w':World} {g:Nat} {l:List fC} (h:mJ w g l) (hb:Below w w w'):mJ w' g l:=by
 obtain⟨n,h⟩:=h;exact⟨n,h.bZ hb h.lt⟩
theorem qE (w:World):(zeroValue 91).run prog w= .ok (.agg #[bU 0,bU 0,bU 0,bU 0,bU 0,bU 0]) w:=by kernel_rfl
theorem Ur (m1:Value) (g2:Nat) (ts:List fC) (nm:ByteArray) (key:nN) (w:World) (hm:mJ w g2 ts) (h6:Ol ts) (hk:key.jQ.length=6) (hn:nm.size≤maxLen):Calls prog 276 #[.agg #[m1,.map (some g2)],bV nm,.agg (pX key).toArray] w (Am (w_ ts nm key) w):=by
 obtain⟨tk,dk⟩:=key;obtain⟨k0,k1,k2,k3,k4,k5,rfl⟩:=six hk;generalize hP:Am (w_ ts nm ⟨tk,[k0,k1,k2,k3,k4,k5]⟩) w=P;have HP:=aa (show ∀ e w',Am (w_ ts nm ⟨tk,[k0,k1,k2,k3,k4,k5]⟩) w e w'→P e w' from fun e w' h=>hP▸h);have HR:Hid (w_ ts nm ⟨tk,[k0,k1,k2,k3,k4,k5]⟩=match iR ts nm with|none=>(11,zT)|some d=>if tk then(13,zT)else if[k0,k1,k2,k3,k4,k5]=eH then(0,Ck.oq d)else(14,zT)):=aa rfl;generalize w_ ts nm ⟨tk,[k0,k1,k2,k3,k4,k5]⟩=q at HP HR;clear hP hk;obtain⟨n2,hm2⟩:=hm;have H6:=aa h6;clear h6;simp only[pX,ig,aal,aak];go_enter func276,ntmps276;go_upto_region 1 with fail;obtain⟨w1,hw1,K0,K1,K2,HB⟩:=oH w [m1,.map (some g2)] [.bool tk,.int .i64 k0,.int .i64 k1,.int .i64 k2,.int .i64 k3,.int .i64 k4,.int .i64 k5] [.bool false,.int .i64 0,.int .i64 0,.int .i64 0,.int .i64 0,.int .i64 0,.int .i64 0] 279 137 137;rw[hw1];clear hw1;have HM:=aa (hm2.bZ HB.o hm2.lt);clear hm2;have x0:=K0.o.cell;cases hl:iR ts nm;(case none=>have HE:=aa (show q=(11,zT) by rw[HR.o,hl]);have HL:=aa hl;clear hl HR;go_wp2_with (first|(at_lookup;refine jm _ rfl _ _ _ rfl 91 underlying277 (qE _) g2 n2 (fun nm=>(iR ts nm).map GS) rfl HM.o nm rfl hn (by rw[HL.o];rfl) ?_;have K3:=aa (K2.o.alloc (.cells #[.int .i64 0,.int .i64 0,.int .i64 0,.int .i64 0,.int .i64 0,.int .i64 0] 91));have eE:=aa (HB.o.alloc HB.o.size (.cells #[.int .i64 0,.int .i64 0,.int .i64 0,.int .i64 0,.int .i64 0,.int .i64 0] 91));clear x0)|(refine cO rfl _ _ _ rfl _ _ rfl rfl _ K3.o dQ rfl rfl ?_;intro w5 K5 gj));exact bodyPost_ret (cM rfl _ _ _ 137 _ _ _ rfl rfl K5.o underlying137 rfl dQ) rfl (HP.o _ _ ⟨by rw[HE.o];rfl,cC eE.o gj aac af⟩));case some d=>
  obtain⟨d0,d1,d2,d3,d4,d5,hd⟩:=six (H6.o nm d hl)
  subst hd
  have HL:=aa hl
  replace HR:=aa (show q=if tk then(13,zT)else if[k0,k1,k2,k3,k4,k5]=eH then(0,Ck.oq [d0,d1,d2,d3,d4,d5])else(14,zT) by rw[HR.o,hl])
  clear hl
  have rR:=Bl k0 k1 k2 k3 k4 k5 0 0 0 0 0 0
  have HN:=aa (fun W=>xC [d0,d1,d2,d3,d4,d5] W)
  simp only[pX,ig,Ck.oq,aal,aak]at HN
  go_upto_region 2 with(at_lookup;refine iF _ rfl _ _ _ rfl 91 underlying277 (qE _) g2 n2 (fun nm=>(iR ts nm).map GS) rfl HM.o nm rfl hn (.agg #[bU d0,bU d1,bU d2,bU d3,bU d4,bU d5]) (by rw[HL.o];rfl) ?_)
  have MH:=aa (K1.o.alloc (.cells #[bU d0,bU d1,bU d2,bU d3,bU d4,bU d5] 91))
  have K3:=aa (K2.o.alloc (.cells #[bU d0,bU d1,bU d2,bU d3,bU d4,bU d5] 91))
  have eE:=aa (HB.o.alloc HB.o.size (.cells #[bU d0,bU d1,bU d2,bU d3,bU d4,bU d5] 91))
  have KD:=aa (show cN (w1.alloc (.cells #[bU d0,bU d1,bU d2,bU d3,bU d4,bU d5] 91)) w1 91 [bU d0,bU d1,bU d2,bU d3,bU d4,bU d5]from heap_alloc_new w1 _)
  generalize w1.alloc (.cells #[bU d0,bU d1,bU d2,bU d3,bU d4,bU d5] 91)=w3 at MH K3 eE KD ⊢
  clear x0
  have x1:=MH.o.cell
  have xd:=KD.o.cell
  cases tk
  case true=>
   have HE:=aa (show q=(13,zT)from HR.o);clear rR;go_wp2_with (refine cO rfl _ _ _ rfl _ _ rfl rfl _ K3.o dQ rfl rfl ?_;intro w5 K5 gj);exact bodyPost_ret (cM rfl _ _ _ 137 _ _ _ rfl rfl K5.o underlying137 rfl dQ) rfl (HP.o _ _ ⟨by rw[HE.o];rfl,cC eE.o gj aac af⟩)
  case false=>
   by_cases hz:[k0,k1,k2,k3,k4,k5]=eH;(case pos=>have HE:=aa (show q=(0,Ck.oq [d0,d1,d2,d3,d4,d5]) by rw[HR.o,if_pos hz];rfl);(have hq:∀ W,(binOp .neq 91 (.agg #[bU k0,bU k1,bU k2,bU k3,bU k4,bU k5]) (.agg #[bU 0,bU 0,bU 0,bU 0,bU 0,bU 0])).run prog W= .ok (.bool false) W:=fun W=>by rw[rR,decide_eq_true (show[k0,k1,k2,k3,k4,k5]=[0,0,0,0,0,0]from hz)];rfl);clear rR hz;go_wp2_with (first|(go_at_call 275;refine(HN.o _).mono ?_;rintro e w6 ⟨rfl,eM⟩;have K6:=aa (K3.o.bZ eM K3.o.lt);have eo:=aa (eE.o.trans (eM.mono eE.o.size));clear eM)|(refine cO rfl _ _ _ rfl _ _ rfl rfl _ K6.o dQ rfl rfl ?_;intro w5 K5 gj));exact bodyPost_ret (cM rfl _ _ _ 137 _ _ _ rfl rfl K5.o underlying137 rfl dQ) rfl (HP.o _ _ ⟨by rw[HE.o];rfl,cC eo.o gj aac af⟩));have HE:=aa (show q=(14,zT) by rw[HR.o,if_neg hz];rfl);(have hq:∀ W,(binOp .neq 91 (.agg #[bU k0,bU k1,bU k2,bU k3,bU k4,bU k5]) (.agg #[bU 0,bU 0,bU 0,bU 0,bU 0,bU 0])).run prog W= .ok (.bool true) W:=fun W=>by rw[rR,decide_eq_false (show ¬[k0,k1,k2,k3,k4,k5]=[0,0,0,0,0,0]from hz)];rfl);clear rR hz;go_wp2_with (refine cO rfl _ _ _ rfl _ _ rfl rfl _ K3.o dQ rfl rfl ?_;intro w5 K5 gj);exact bodyPost_ret (cM rfl _ _ _ 137 _ _ _ rfl rfl K5.o underlying137 rfl dQ) rfl (HP.o _ _ ⟨by rw[HE.o];rfl,cC eE.o gj aac af⟩)
theorem Us (g1:Nat) (m2:Value) (vs:List fC) (op n:Int) (un nm:ByteArray) (a4:Value) (w:World) (hm:mJ w g1 vs) (h6:Ol vs) (hu:un.size≤maxLen) (hn:nm.size≤maxLen):Calls prog 244 #[.agg #[.map (some g1),m2],.agg #[bU op,bU n,bV un,bV nm,a4]] w (Am (uG vs op un nm) w):=by
 generalize hP:Am (uG vs op un nm) w=P;have HP:=aa (show ∀ e w',Am (uG vs op un nm) w e w'→P e w' from fun e w' h=>hP▸h);have HR:Hid (uG vs op un nm=(if op=1 then(match iR vs nm with|none=>(11,zT)|some d=>(0,Ck.oq d):Int×nN)else(if(jK un).1=0 then(0,Ck.oq (iw un))else(14,zT):Int×nN))):=aa rfl;generalize uG vs op un nm=q at HP HR;clear hP;obtain⟨n2,hm2⟩:=hm;have H6:=aa h6;clear h6;go_enter func244,ntmps244;go_upto_region 1 with fail;obtain⟨w1,hw1,K0,K1,K2,HB⟩:=oH w [.map (some g1),m2] [.int .i64 op,.int .i64 n,.string un,.string nm,a4] [.bool false,.int .i64 0,.int .i64 0,.int .i64 0,.int .i64 0,.int .i64 0,.int .i64 0] 279 47 137;rw[hw1];clear hw1;have HM:=aa (hm2.bZ HB.o hm2.lt);clear hm2;have x0:=K0.o.cell;have x1:=K1.o.cell;by_cases ho:op=1;case pos=>
  subst ho
  replace HR:=aa (show q=(match iR vs nm with|none=>(11,zT)|some d=>(0,Ck.oq d):Int×nN) by rw[HR.o,if_pos rfl])
  cases hl:iR vs nm
  case none=>
   have HE:=aa (show q=(11,zT) by rw[HR.o,hl]);have HL:=aa hl;clear hl HR;go_wp2_with (first|(at_lookup;refine jm _ rfl _ _ _ rfl 91 underlying277 (qE _) g1 n2 (fun nm=>(iR vs nm).map GS) rfl HM.o nm rfl hn (by rw[HL.o];rfl) ?_;have K3:=aa (K2.o.alloc (.cells #[bU 0,bU 0,bU 0,bU 0,bU 0,bU 0] 91));have eE:=aa (HB.o.alloc HB.o.size (.cells #[bU 0,bU 0,bU 0,bU 0,bU 0,bU 0] 91));clear x0 x1)|(refine cO rfl _ _ _ rfl _ _ rfl rfl _ K3.o dQ rfl rfl ?_;intro w5 K5 gj));exact bodyPost_ret (cM rfl _ _ _ 137 _ _ _ rfl rfl K5.o underlying137 rfl dQ) rfl (HP.o _ _ ⟨by rw[HE.o];rfl,cC eE.o gj aac af⟩)
  case some d=>
   obtain⟨d0,d1,d2,d3,d4,d5,hd⟩:=six (H6.o nm d hl);subst hd;have HL:=aa hl;have HE:=aa (show q=(0,Ck.oq [d0,d1,d2,d3,d4,d5]) by rw[HR.o,hl]);clear hl HR;have HN:=aa (fun W=>xC [d0,d1,d2,d3,d4,d5] W);simp only[pX,ig,Ck.oq,aal,aak]at HN;go_upto_region 3 with(at_lookup;refine iF _ rfl _ _ _ rfl 91 underlying277 (qE _) g1 n2 (fun nm=>(iR vs nm).map GS) rfl HM.o nm rfl hn (.agg #[bU d0,bU d1,bU d2,bU d3,bU d4,bU d5]) (by rw[HL.o];rfl) ?_);have K3:=aa (K2.o.alloc (.cells #[bU d0,bU d1,bU d2,bU d3,bU d4,bU d5] 91));have eE:=aa (HB.o.alloc HB.o.size (.cells #[bU d0,bU d1,bU d2,bU d3,bU d4,bU d5] 91));have KD:=aa (show cN (w1.alloc (.cells #[bU d0,bU d1,bU d2,bU d3,bU d4,bU d5] 91)) w1 91 [bU d0,bU d1,bU d2,bU d3,bU d4,bU d5]from heap_alloc_new w1 _);generalize w1.alloc (.cells #[bU d0,bU d1,bU d2,bU d3,bU d4,bU d5] 91)=w3 at K3 eE KD ⊢;clear x0 x1;have xd:=KD.o.cell;go_wp2_with (first|(go_at_call 275;refine(HN.o _).mono ?_;rintro e w6 ⟨rfl,eM⟩;have K6:=aa (K3.o.bZ eM K3.o.lt);have eo:=aa (eE.o.trans (eM.mono eE.o.size));clear eM)|(refine cO rfl _ _ _ rfl _ _ rfl rfl _ K6.o dQ rfl rfl ?_;intro w5 K5 gj));exact bodyPost_ret (cM rfl _ _ _ 137 _ _ _ rfl rfl K5.o underlying137 rfl dQ) rfl (HP.o _ _ ⟨by rw[HE.o];rfl,cC eo.o gj aac af⟩)
 case neg=>
  have zo:(op==1)=false:=by simpa using ho
  replace HR:=aa (show q=if(jK un).1=0 then(0,Ck.oq (iw un))else(14,zT) by rw[HR.o,if_neg ho])
  have qD:=aa (fun W=>nV un W hu)
  clear ho
  go_upto_region 7 with(go_at_call 84;refine(qD.o _).mono ?_;rintro e w6 ⟨d0,d1,d2,d3,d4,d5,s',A,nn,c,t,B,m,cc,rfl,hd,_,eM⟩;have K6:=aa (K2.o.bZ eM K2.o.lt);have eo:=aa (HB.o.trans (eM.mono HB.o.size));have HD:=aa (show iw un=[d0,d1,d2,d3,d4,d5]from hd);clear eM hd x0 x1)
  have HN:=aa (fun W=>xC [d0,d1,d2,d3,d4,d5] W)
  simp only[pX,ig,Ck.oq,aal,aak]at HN
  generalize (jK un).1=re at HR ⊢
  have K3:=aa (K6.o.alloc (.cells #[bU d0,bU d1,bU d2,bU d3,bU d4,bU d5,bU s',bW A nn c,bU t,bW B m cc] 165))
  have eE:=aa (eo.o.alloc eo.o.size (.cells #[bU d0,bU d1,bU d2,bU d3,bU d4,bU d5,bU s',bW A nn c,bU t,bW B m cc] 165))
  have KD:=aa (show cN (w6.alloc (.cells #[bU d0,bU d1,bU d2,bU d3,bU d4,bU d5,bU s',bW A nn c,bU t,bW B m cc] 165)) w6 165 [bU d0,bU d1,bU d2,bU d3,bU d4,bU d5,bU s',bW A nn c,bU t,bW B m cc]from heap_alloc_new w6 _)
  generalize w6.alloc (.cells #[bU d0,bU d1,bU d2,bU d3,bU d4,bU d5,bU s',bW A nn c,bU t,bW B m cc] 165)=w3 at K3 eE KD ⊢
  have xd:=KD.o.cell
  by_cases wT:re=0
  case pos=>
   have HE:=aa (show q=(0,Ck.oq [d0,d1,d2,d3,d4,d5]) by rw[HR.o,if_pos wT,HD.o]);subst wT;go_wp2_with (first|(go_at_call 275;refine(HN.o _).mono ?_;rintro e w7 ⟨rfl,nA⟩;have K7:=aa (K3.o.bZ nA K3.o.lt);have j9:=aa (eE.o.trans (nA.mono eE.o.size));clear nA)|(refine cO rfl _ _ _ rfl _ _ rfl rfl _ K7.o dQ rfl rfl ?_;intro w5 K5 gj));exact bodyPost_ret (cM rfl _ _ _ 137 _ _ _ rfl rfl K5.o underlying137 rfl dQ) rfl (HP.o _ _ ⟨by rw[HE.o];rfl,cC j9.o gj aac af⟩)
  case neg=>
   have HE:=aa (show q=(14,zT) by rw[HR.o,if_neg wT]);have zr:(re != 0)=true:=(by simpa using wT);clear wT HN;go_wp2_with (refine cO rfl _ _ _ rfl _ _ rfl rfl _ K3.o dQ rfl rfl ?_;intro w5 K5 gj);exact bodyPost_ret (cM rfl _ _ _ 137 _ _ _ rfl rfl K5.o underlying137 rfl dQ) rfl (HP.o _ _ ⟨by rw[HE.o];rfl,cC eE.o gj aac af⟩)
end Go.Proofs.YtfppbjfnllhgcaaGreat
namespace Go.Proofs
open Go.Shelf
def Ec:Go.Shelf.Ren:=⟨fun|6=>59|15=>98|14=>97|28=>160|29=>161|20=>152|21=>153|22=>154|23=>155|24=>156|25=>157|26=>158|27=>159|46=>215|47=>216|48=>217|49=>218|50=>219|57=>255|n=>n,fun|22=>35|24=>51|25=>81|3=>3|39=>200|0=>0|53=>250|55=>252|4=>4|46=>244|45=>243|50=>179|5=>5|9=>9|66=>293|70=>235|76=>318|77=>319|n=>n,fun|n=>n⟩
theorem yT:Go.Proofs.SlLaysF0.n6 prog Ec:=by
 constructor;(case f6=>exact⟨Tryz.f59.name,by decide,Tryz.func59.trans (congrArg some ah)⟩);(case f14=>exact⟨Tryz.f97.name,by decide,Tryz.func97.trans (congrArg some ah)⟩);(case f15=>exact Tryz.func98.trans (congrArg some ah));(case f20=>exact⟨Tryz.f152.name,by decide,Tryz.func152.trans (congrArg some ah)⟩);(case f21=>exact⟨Tryz.f153.name,by decide,Tryz.func153.trans (congrArg some ah)⟩);(case f22=>exact⟨Tryz.f154.name,by decide,Tryz.func154.trans (congrArg some ah)⟩);(case f23=>exact⟨Tryz.f155.name,by decide,Tryz.func155.trans (congrArg some ah)⟩);(case f24=>exact⟨Tryz.f156.name,by decide,Tryz.func156.trans (congrArg some ah)⟩);(case f25=>exact⟨Tryz.f157.name,by decide,Tryz.func157.trans (congrArg some ah)⟩);(case f26=>exact⟨Tryz.f158.name,by decide,Tryz.func158.trans (congrArg some ah)⟩);(case f27=>exact⟨Tryz.f159.name,by decide,Tryz.func159.trans (congrArg some ah)⟩);(case f28=>exact Tryz.func160.trans (congrArg some ah));(case f29=>exact Tryz.func161.trans (congrArg some ah));(case f46=>exact⟨Tryz.f215.name,by decide,Tryz.func215.trans (congrArg some ah)⟩);(case f47=>exact Tryz.func216.trans (congrArg some ah));(case f48=>exact Tryz.func217.trans (congrArg some ah));(case f49=>exact⟨Tryz.f218.name,by decide,Tryz.func218.trans (congrArg some ah)⟩);(case f50=>exact⟨Tryz.f219.name,by decide,Tryz.func219.trans (congrArg some ah)⟩);(case f57=>exact⟨Tryz.f255.name,by decide,Tryz.func255.trans (congrArg some ah)⟩);(all_goals first|kernel_rfl|(intro;kernel_rfl))
def yU:Go.Shelf.Ren:=⟨fun|8=>304|6=>317|n=>n,fun|22=>312|23=>137|25=>357|4=>4|3=>3|0=>0|n=>n,fun|n=>n⟩
theorem GU:Go.Proofs.SlLaysH0.n8 prog yU:=by
 constructor;(case f6=>exact⟨Tryz.f317.name,by decide,Tryz.func317.trans (congrArg some ah)⟩);(case f8=>exact⟨Tryz.f304.name,by decide,Tryz.func304.trans (congrArg some ah)⟩);(all_goals first|kernel_rfl|(intro;kernel_rfl))
end Go.Proofs
