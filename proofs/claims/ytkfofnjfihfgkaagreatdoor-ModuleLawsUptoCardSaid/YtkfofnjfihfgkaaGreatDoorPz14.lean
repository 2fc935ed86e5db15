/- Parts of the proof, packed (Step to Right); each theorem bears its own conditions. -/
import Derived.OrdersHeld
import Derived.Deep.RegionHeld
import Derived.Test.YtkfofnjfihfgkaaGreatDoorPz13
set_option linter.unusedVariables false
set_option linter.unusedSimpArgs false
set_option maxRecDepth 100000
set_option maxHeartbeats 8000000
open Go.Proofs.Tryz
open Go.Lib renaming hid → aa
theorem Go.Shut.o {p : Prop} (h : Go.Shut p) : p := h
theorem ah {p:Prop} (h:p:=by first|exact cF.o|exact bT cF.o _|exact bT (bT cF.o _) _|exact bT (bT (bT cF.o _) _) _):p:=h
theorem au {p:Prop} (h:p:=by intro d v c a w h;cases d<;>exact h):p:=h
namespace Go.Proofs.YtkfofnjfihfgkaaGreatDoor
open Go Go.RowKit Bg Go.Proofs Sh Kb
theorem VO (y:Int) (h0:0≤y) (h9:y<9):∃ (wd:ByteArray) (n0 n1 m0 m1:Nat) (a b c:Bool),(∀ W,(Instr.index 195 (.agg uB.toArray) (bR y)).run prog W= .ok (.agg #[bV wd,bR n0,bR n1,bR m0,bR m1,.bool a,.bool b,.bool c]) W)∧(shapeOf y).in0=n0∧(shapeOf y).in1=n1∧(shapeOf y).out0=m0∧(shapeOf y).Zi=m1∧(shapeOf y).name=a∧(shapeOf y).cells=b∧(shapeOf y).wE=c:=by
 have hc:y=0∨y=1∨y=2∨y=3∨y=4∨y=5∨y=6∨y=7∨y=8:=af;rcases hc with rfl|rfl|rfl|rfl|rfl|rfl|rfl|rfl|rfl
 (·exact⟨⟨#[109,101,116,101,114]⟩,0,0,1,1,true,false,false,fun W=>by kernel_rfl,rfl,rfl,rfl,rfl,rfl,rfl,rfl⟩)
 (·exact⟨⟨#[116,97,107,101]⟩,0,0,1,1,true,false,false,fun W=>by kernel_rfl,rfl,rfl,rfl,rfl,rfl,rfl,rfl⟩)
 (·exact⟨⟨#[100,114,97,119]⟩,0,0,1,1,true,false,true,fun W=>by kernel_rfl,rfl,rfl,rfl,rfl,rfl,rfl,rfl⟩)
 (·exact⟨⟨#[115,112,108,105,116]⟩,1,1,1,100,false,true,false,fun W=>by kernel_rfl,rfl,rfl,rfl,rfl,rfl,rfl,rfl⟩)
 (·exact⟨⟨#[106,111,105,110]⟩,1,100,1,1,false,false,false,fun W=>by kernel_rfl,rfl,rfl,rfl,rfl,rfl,rfl,rfl⟩)
 (·exact⟨⟨#[103,105,118,101]⟩,1,1,0,0,true,false,false,fun W=>by kernel_rfl,rfl,rfl,rfl,rfl,rfl,rfl,rfl⟩)
 (·exact⟨⟨#[112,117,116]⟩,1,1,0,0,true,false,true,fun W=>by kernel_rfl,rfl,rfl,rfl,rfl,rfl,rfl,rfl⟩)
 (·exact⟨⟨#[108,111,115,101]⟩,1,1,0,0,true,false,false,fun W=>by kernel_rfl,rfl,rfl,rfl,rfl,rfl,rfl,rfl⟩);exact⟨⟨#[114,101,115,116]⟩,1,1,0,0,false,false,false,fun W=>by kernel_rfl,rfl,rfl,rfl,rfl,rfl,rfl,rfl⟩
theorem QC {w w1:World} (o:Obj) (v0 v1 v2 v3 v4 v5 v6 v7:Value) (h:Below (w.alloc o).drew.heap.size (w.alloc o).drew w1):∃ p:Nat,Value.pointer (bS w1 0)= .pointer (bS p 0)∧w.heap.size<p∧Hid (cH (w1.alloc (.cells #[v0,v1,v2,v3,v4,v5,v6,v7] 194)) p 194 [v0,v1,v2,v3,v4,v5,v6,v7])∧Hid (Below (w.alloc o).heap.size (w.alloc o) (w1.alloc (.cells #[v0,v1,v2,v3,v4,v5,v6,v7] 194))):=by
 have h2:=dR h;have h3:=h2.size;have h4:w.heap.size<w1:=(by simp at h3;omega);exact⟨w1.heap.size,rfl,h4,aa (iW rfl),aa (h2.alloc h3 _)⟩
theorem QE {w w1:World} (o:Obj) (v0 v1 v2 v3 v4 v5 v6 v7 zv0 zv1 zv2 zv3 zv4 zv5 zv6 zv7:Value) (h:Below ((w.alloc o).alloc (.cells #[zv0,zv1,zv2,zv3,zv4,zv5,zv6,zv7] 194)).drew.heap.size ((w.alloc o).alloc (.cells #[zv0,zv1,zv2,zv3,zv4,zv5,zv6,zv7] 194)).drew w1):∃ p:Nat,Value.pointer (bS (w+1) 0)= .pointer (bS p 0)∧w.heap.size<p∧Hid (cH ((((((((w1.setCell (bS (w+1) 0) v0).setCell (bS (w+1) 1) v1).setCell (bS (w+1) 2) v2).setCell (bS (w+1) 3) v3).setCell (bS (w+1) 4) v4).setCell (bS (w+1) 5) v5).setCell (bS (w+1) 6) v6).setCell (bS (w+1) 7) v7) p 194 [v0,v1,v2,v3,v4,v5,v6,v7])∧Hid (Below (w.alloc o).heap.size (w.alloc o) ((((((((w1.setCell (bS (w+1) 0) v0).setCell (bS (w+1) 1) v1).setCell (bS (w+1) 2) v2).setCell (bS (w+1) 3) v3).setCell (bS (w+1) 4) v4).setCell (bS (w+1) 5) v5).setCell (bS (w+1) 6) v6).setCell (bS (w+1) 7) v7)):=by
 have h2:=dR h;have hb:cH w1 (w+1) 194 [zv0,zv1,zv2,zv3,zv4,zv5,zv6,zv7]:=cH.bU (iW aj) h2 aj;have h3:=((Below.refl _ (w.alloc o)).alloc (Nat.le_refl _) _).trans (h2.mono aj);have b8:=((((((((((((((((hb).cM 0 v0)).cM 1 v1)).cM 2 v2)).cM 3 v3)).cM 4 v4)).cM 5 v5)).cM 6 v6)).cM 7 v7);have c8:=((((((((((((((((h3).setCell (p:=bS (w+1) 0) aj v0)).setCell (p:=bS (w+1) 1) aj v1)).setCell (p:=bS (w+1) 2) aj v2)).setCell (p:=bS (w+1) 3) aj v3)).setCell (p:=bS (w+1) 4) aj v4)).setCell (p:=bS (w+1) 5) aj v5)).setCell (p:=bS (w+1) 6) aj v6)).setCell (p:=bS (w+1) 7) aj v7);exact⟨w.heap.size+1,rfl,Nat.lt_succ_self _,aa b8,aa c8⟩
theorem bT {B:Nat} {w w':World} (h:Below B w w') (n:Nat):Below B w (w'.drewN n):=⟨h.os,h.tape,h.output,h.size,h.block⟩
def Kq (b:Bool) (w:World) (e:Ending) (w':World):Prop:=e= .returned (.bool b)∧Below w w w'
theorem ES (x:dV) (A1 A2 A3:Option Addr) (c1 c2 c3:Nat) (w:World) (hs1:Sq dw w Any A1 x.inp) (hs2:Sq dw w Any A2 x.o) (hs3:Sq dw w Any A3 x.cells) (hz:(∀ s∈x.inp,s.size≤maxLen)∧(∀ s∈x.o,s.size≤maxLen)∧(∀ s∈x.cells,s.size≤maxLen)∧x.name.size≤maxLen) (hl:x.inp.length≤maxLen∧x.o.length≤maxLen∧x.cells.length≤maxLen):Calls prog 64 #[.agg #[bR x.kind,bQ A1 x.inp c1,bQ A2 x.o c2,bV x.name,bQ A3 x.cells c3,bR x.amount]] w (Kq (dO x) w):=by
 have HB:=aa (show dO x=if x.kind<0∨9≤x.kind then false else gy x.inp (shapeOf x.kind).in0 (shapeOf x.kind).in1&&gy x.o (shapeOf x.kind).out0 (shapeOf x.kind).Zi&&gy x.cells (if(shapeOf x.kind).cells then x.o.length else 0) (if(shapeOf x.kind).cells then x.o.length else 0)&&(if(shapeOf x.kind).name then cT x.name else fR x.name)&&(if(shapeOf x.kind).wE then dN x.amount else x.amount==0)from by unfold dO;rfl);generalize dO x=R at HB ⊢;generalize hP:Kq R w=P;have HP:=aa (show ∀ e w',e= .returned (.bool R)→Below w w w'→P e w' from fun e w' h1 h2=>by rw[← hP];exact⟨h1,h2⟩);have sY:=aa hs1;have m_:=aa hs2;have Ss:=aa hs3;have HZ:=aa hz;have HL:=aa hl;obtain⟨kind,inp,out,name,cells,amount⟩:=x;dsimp only at*;have ju:=aa (show Below w w (w.alloc (.cells #[bR kind,bQ A1 inp c1,bQ A2 out c2,bV name,bQ A3 cells c3,bR amount] 65))from(Below.refl _ w).alloc (Nat.le_refl _) _);by_cases hk0:kind<0
 (·have e0:decide (kind<0)=true:=(by simpa using hk0);have HF:=aa (show R=false by rw[HB.o,if_pos (Or.inl hk0)]);go_enter func64,ntmps64;go_wp2_with fail;exact HP.o _ _ (cK HF.o.symm) ju.o);by_cases hk9:9≤kind
 (·have e0:decide (kind<0)=false:=(by simpa using hk0);have e9:decide (9≤kind)=true:=(by simpa using hk9);have HF:=aa (show R=false by rw[HB.o,if_pos (Or.inr hk9)]);go_enter func64,ntmps64;go_wp2_with fail;exact HP.o _ _ (cK HF.o.symm) ju.o);have e0:decide (kind<0)=false:=(by simpa using hk0);have e9:decide (9≤kind)=false:=(by simpa using hk9);obtain⟨wd,n0,n1,m0,m1,fa,fb,fc,hix,g1,g2,g3,g4,g5,g6,g7⟩:=VO kind af af;rw[if_neg af,g1,g2,g3,g4,g5,g6,g7]at HB;have EI:=aa (fun W=>xy W);go_enter func64,ntmps64;go_upto_region 3 with fail;go_cut [3] (fun s3 wx=>∃ p:Nat,s3= .pointer (bS p 0)∧w.heap.size<p∧Hid (cH wx p 194 [bV wd,bR n0,bR n1,bR m0,bR m1,.bool fa,.bool fb,.bool fc])∧Hid (Below (w.alloc (.cells #[bR kind,bQ A1 inp c1,bQ A2 out c2,bV name,bQ A3 cells c3,bR amount] 65)).heap.size (w.alloc (.cells #[bR kind,bQ A1 inp c1,bQ A2 out c2,bV name,bQ A3 cells c3,bR amount] 65)) wx));case first=>
  go_region_held3 (fun w'=>bW w' w 0 (bR kind)) (go_keep)
   (first
    |(go_at_call 134;(with_reducible refine(EI.o _).mono ?_);rintro e w1 ⟨rfl,hb1⟩;have eJ:=aa hb1;obtain⟨hc1,jH⟩:=iu hb1;have HZ1:=aa hb1.size;have s0:bW w1 w 0 (.int .i64 kind):=(hc1 _ _ (by simp[World.drew]<;>omega)).trans ax;have z1:w.heap.size<w1:=Nat.lt_of_lt_of_le (by simp[World.drew]<;>omega) hb1.size;clear hb1))
  all_goals
   (try go_wp2_with fail
    go_meet
    first
    |exact QC _ _ _ _ _ _ _ _ _ eJ.o
    |exact QE _ _ _ _ _ _ _ _ _ _ _ _ _ _ _ _ _ eJ.o)
 obtain⟨p,rfl,hp,I5,z_⟩:=hcut;have cF:=aa (show Below w w wc from ju.o.trans (z_.o.mono aj));have HST:=aa (show cH wc w 65 [bR kind,bQ A1 inp c1,bQ A2 out c2,bV name,bQ A3 cells c3,bR amount]from cH.bU (heap_alloc_new _ _) z_.o aj);have a0:=HST.o.cell 0;have a1:=HST.o.cell 1;have a2:=HST.o.cell 2;have a3:=HST.o.cell 3;have a4:=HST.o.cell 4;have a5:=HST.o.cell 5;have s0:=I5.o.cell 0;have s1:=I5.o.cell 1;have s2:=I5.o.cell 2;have s3:=I5.o.cell 3;have s4:=I5.o.cell 4;have s5:=I5.o.cell 5;have s6:=I5.o.cell 6;have s7:=I5.o.cell 7;have lW:=aa (fun W (h:Below w w W)=>qy A1 c1 inp n0 n1 W HZ.o.1 HL.o.1 (sY.o.bU (h.mono (Nat.le_refl _))));have om:=aa (fun W (h:Below w w W)=>qy A2 c2 out m0 m1 W HZ.o.2.1 HL.o.2.1 (m_.o.bU h));have Es:=aa (fun W=>kY name W HZ.o.2.2.2);have CX:=aa (fun W=>sB amount W);generalize gy inp n0 n1=b1 at HB lW;generalize gy out m0 m1=b2 at HB om;cases fb with
 |false=>
  have oC:=aa (fun W (h:Below w w W)=>qy A3 c3 cells (0) (0) W HZ.o.2.2.1 HL.o.2.2 (Ss.o.bU h));have HB:=aa (show R=(b1&&b2&&gy cells (0) (0)&&(if fa then cT name else fR name)&&(if fc then dN amount else amount==0))from by rw[HB.o];simp);generalize gy cells (0) (0)=b3 at HB oC;have vI:=HB.o;cases b1 with
  |false=>
   have HF:=aa (show R=false by rw[vI];simp);go_wp2_with fail;refine(lW.o _ ah).mono ?_;rintro e w2 ⟨rfl,k2,rfl⟩;go_wp2_with fail;exact HP.o _ _ (cK HF.o.symm) ah
  |true=>
   cases b2 with
   |false=>
    have HF:=aa (show R=false by rw[vI];simp);go_wp2_with fail;refine(lW.o _ ah).mono ?_;rintro e w2 ⟨rfl,k2,rfl⟩;go_wp2_with fail;refine(om.o _ ah).mono ?_;rintro e w3 ⟨rfl,k3,rfl⟩;go_wp2_with fail;exact HP.o _ _ (cK HF.o.symm) ah
   |true=>
    cases b3 with
    |false=>
     have HF:=aa (show R=false by rw[vI];simp);go_wp2_with fail;refine(lW.o _ ah).mono ?_;rintro e w2 ⟨rfl,k2,rfl⟩;go_wp2_with fail;refine(om.o _ ah).mono ?_;rintro e w3 ⟨rfl,k3,rfl⟩;go_wp2_with fail;refine(oC.o _ ah).mono ?_;rintro e w4 ⟨rfl,k4,rfl⟩;go_wp2_with fail;exact HP.o _ _ (cK HF.o.symm) ah
    |true=>
     cases fa with
     |true=>
      generalize cT name=q at vI Es;cases q with
      |false=>
       have HF:=aa (show R=false by rw[vI];simp);go_wp2_with fail;refine(lW.o _ ah).mono ?_;rintro e w2 ⟨rfl,k2,rfl⟩;go_wp2_with fail;refine(om.o _ ah).mono ?_;rintro e w3 ⟨rfl,k3,rfl⟩;go_wp2_with fail;refine(oC.o _ ah).mono ?_;rintro e w4 ⟨rfl,k4,rfl⟩;go_wp2_with fail;refine(Es.o _).mono ?_;rintro e w5 ⟨rfl,rfl⟩;go_wp2_with fail;exact HP.o _ _ (cK HF.o.symm) ah
      |true=>
       cases fc with
       |true=>
        generalize dN amount=z at vI CX;have HF:=aa (show R=z by rw[vI];simp);cases z with
        |true=>
         go_wp2_with fail;refine(lW.o _ ah).mono ?_;rintro e w2 ⟨rfl,k2,rfl⟩;go_wp2_with fail;refine(om.o _ ah).mono ?_;rintro e w3 ⟨rfl,k3,rfl⟩;go_wp2_with fail;refine(oC.o _ ah).mono ?_;rintro e w4 ⟨rfl,k4,rfl⟩;go_wp2_with fail;refine(Es.o _).mono ?_;rintro e w5 ⟨rfl,rfl⟩;go_wp2_with fail;refine(CX.o _).mono ?_;rintro e w6 ⟨rfl,rfl⟩;go_wp2_with fail;exact HP.o _ _ (cK HF.o.symm) ah
        |false=>
         go_wp2_with fail;refine(lW.o _ ah).mono ?_;rintro e w2 ⟨rfl,k2,rfl⟩;go_wp2_with fail;refine(om.o _ ah).mono ?_;rintro e w3 ⟨rfl,k3,rfl⟩;go_wp2_with fail;refine(oC.o _ ah).mono ?_;rintro e w4 ⟨rfl,k4,rfl⟩;go_wp2_with fail;refine(Es.o _).mono ?_;rintro e w5 ⟨rfl,rfl⟩;go_wp2_with fail;refine(CX.o _).mono ?_;rintro e w6 ⟨rfl,rfl⟩;go_wp2_with fail;exact HP.o _ _ (cK HF.o.symm) ah
       |false=>
        have HF:=aa (show R=decide (amount=0) by rw[vI];by_cases h:amount=0<;>simp[h]);go_wp2_with fail;refine(lW.o _ ah).mono ?_;rintro e w2 ⟨rfl,k2,rfl⟩;go_wp2_with fail;refine(om.o _ ah).mono ?_;rintro e w3 ⟨rfl,k3,rfl⟩;go_wp2_with fail;refine(oC.o _ ah).mono ?_;rintro e w4 ⟨rfl,k4,rfl⟩;go_wp2_with fail;refine(Es.o _).mono ?_;rintro e w5 ⟨rfl,rfl⟩;go_wp2_with fail;exact HP.o _ _ (cK HF.o.symm) ah
     |false=>
      have GC:=aa (show fR name=name.toList.isEmpty from(fo name).symm);have rz:(name.toList==[])=name.toList.isEmpty:=(by rw[nil_eq,fo]);rw[GC.o]at vI;cases hne:name.toList.isEmpty with
      |false=>
       rw[hne]at vI rz;have HF:=aa (show R=false by rw[vI];simp);go_wp2_with fail;refine(lW.o _ ah).mono ?_;rintro e w2 ⟨rfl,k2,rfl⟩;go_wp2_with fail;refine(om.o _ ah).mono ?_;rintro e w3 ⟨rfl,k3,rfl⟩;go_wp2_with fail;refine(oC.o _ ah).mono ?_;rintro e w4 ⟨rfl,k4,rfl⟩;go_wp2_with fail;exact HP.o _ _ (cK HF.o.symm) ah
      |true=>
       rw[hne]at vI rz;cases fc with
       |true=>
        generalize dN amount=z at vI CX;have HF:=aa (show R=z by rw[vI];simp);cases z with
        |true=>
         go_wp2_with fail;refine(lW.o _ ah).mono ?_;rintro e w2 ⟨rfl,k2,rfl⟩;go_wp2_with fail;refine(om.o _ ah).mono ?_;rintro e w3 ⟨rfl,k3,rfl⟩;go_wp2_with fail;refine(oC.o _ ah).mono ?_;rintro e w4 ⟨rfl,k4,rfl⟩;go_wp2_with fail;refine(CX.o _).mono ?_;rintro e w6 ⟨rfl,rfl⟩;go_wp2_with fail;exact HP.o _ _ (cK HF.o.symm) ah
        |false=>
         go_wp2_with fail;refine(lW.o _ ah).mono ?_;rintro e w2 ⟨rfl,k2,rfl⟩;go_wp2_with fail;refine(om.o _ ah).mono ?_;rintro e w3 ⟨rfl,k3,rfl⟩;go_wp2_with fail;refine(oC.o _ ah).mono ?_;rintro e w4 ⟨rfl,k4,rfl⟩;go_wp2_with fail;refine(CX.o _).mono ?_;rintro e w6 ⟨rfl,rfl⟩;go_wp2_with fail;exact HP.o _ _ (cK HF.o.symm) ah
       |false=>
        have HF:=aa (show R=decide (amount=0) by rw[vI];by_cases h:amount=0<;>simp[h]);go_wp2_with fail;refine(lW.o _ ah).mono ?_;rintro e w2 ⟨rfl,k2,rfl⟩;go_wp2_with fail;refine(om.o _ ah).mono ?_;rintro e w3 ⟨rfl,k3,rfl⟩;go_wp2_with fail;refine(oC.o _ ah).mono ?_;rintro e w4 ⟨rfl,k4,rfl⟩;go_wp2_with fail;exact HP.o _ _ (cK HF.o.symm) ah
 |true=>
  have oC:=aa (fun W (h:Below w w W)=>qy A3 c3 cells (out.length) (out.length) W HZ.o.2.2.1 HL.o.2.2 (Ss.o.bU h));have HB:=aa (show R=(b1&&b2&&gy cells (out.length) (out.length)&&(if fa then cT name else fR name)&&(if fc then dN amount else amount==0))from by rw[HB.o];simp);generalize gy cells (out.length) (out.length)=b3 at HB oC;have vI:=HB.o;cases b1 with
  |false=>
   have HF:=aa (show R=false by rw[vI];simp);go_wp2_with fail;refine(lW.o _ ah).mono ?_;rintro e w2 ⟨rfl,k2,rfl⟩;go_wp2_with fail;exact HP.o _ _ (cK HF.o.symm) ah
  |true=>
   cases b2 with
   |false=>
    have HF:=aa (show R=false by rw[vI];simp);go_wp2_with fail;refine(lW.o _ ah).mono ?_;rintro e w2 ⟨rfl,k2,rfl⟩;go_wp2_with fail;refine(om.o _ ah).mono ?_;rintro e w3 ⟨rfl,k3,rfl⟩;go_wp2_with fail;exact HP.o _ _ (cK HF.o.symm) ah
   |true=>
    cases b3 with
    |false=>
     have HF:=aa (show R=false by rw[vI];simp);go_wp2_with fail;refine(lW.o _ ah).mono ?_;rintro e w2 ⟨rfl,k2,rfl⟩;go_wp2_with fail;refine(om.o _ ah).mono ?_;rintro e w3 ⟨rfl,k3,rfl⟩;go_wp2_with fail;refine(oC.o _ ah).mono ?_;rintro e w4 ⟨rfl,k4,rfl⟩;go_wp2_with fail;exact HP.o _ _ (cK HF.o.symm) ah
    |true=>
     cases fa with
     |true=>
      generalize cT name=q at vI Es;cases q with
      |false=>
       have HF:=aa (show R=false by rw[vI];simp);go_wp2_with fail;refine(lW.o _ ah).mono ?_;rintro e w2 ⟨rfl,k2,rfl⟩;go_wp2_with fail;refine(om.o _ ah).mono ?_;rintro e w3 ⟨rfl,k3,rfl⟩;go_wp2_with fail;refine(oC.o _ ah).mono ?_;rintro e w4 ⟨rfl,k4,rfl⟩;go_wp2_with fail;refine(Es.o _).mono ?_;rintro e w5 ⟨rfl,rfl⟩;go_wp2_with fail;exact HP.o _ _ (cK HF.o.symm) ah
      |true=>
       cases fc with
       |true=>
        generalize dN amount=z at vI CX;have HF:=aa (show R=z by rw[vI];simp);cases z with
        |true=>
         go_wp2_with fail;refine(lW.o _ ah).mono ?_;rintro e w2 ⟨rfl,k2,rfl⟩;go_wp2_with fail;refine(om.o _ ah).mono ?_;rintro e w3 ⟨rfl,k3,rfl⟩;go_wp2_with fail;refine(oC.o _ ah).mono ?_;rintro e w4 ⟨rfl,k4,rfl⟩;go_wp2_with fail;refine(Es.o _).mono ?_;rintro e w5 ⟨rfl,rfl⟩;go_wp2_with fail;refine(CX.o _).mono ?_;rintro e w6 ⟨rfl,rfl⟩;go_wp2_with fail;exact HP.o _ _ (cK HF.o.symm) ah
        |false=>
         go_wp2_with fail;refine(lW.o _ ah).mono ?_;rintro e w2 ⟨rfl,k2,rfl⟩;go_wp2_with fail;refine(om.o _ ah).mono ?_;rintro e w3 ⟨rfl,k3,rfl⟩;go_wp2_with fail;refine(oC.o _ ah).mono ?_;rintro e w4 ⟨rfl,k4,rfl⟩;go_wp2_with fail;refine(Es.o _).mono ?_;rintro e w5 ⟨rfl,rfl⟩;go_wp2_with fail;refine(CX.o _).mono ?_;rintro e w6 ⟨rfl,rfl⟩;go_wp2_with fail;exact HP.o _ _ (cK HF.o.symm) ah
       |false=>
        have HF:=aa (show R=decide (amount=0) by rw[vI];by_cases h:amount=0<;>simp[h]);go_wp2_with fail;refine(lW.o _ ah).mono ?_;rintro e w2 ⟨rfl,k2,rfl⟩;go_wp2_with fail;refine(om.o _ ah).mono ?_;rintro e w3 ⟨rfl,k3,rfl⟩;go_wp2_with fail;refine(oC.o _ ah).mono ?_;rintro e w4 ⟨rfl,k4,rfl⟩;go_wp2_with fail;refine(Es.o _).mono ?_;rintro e w5 ⟨rfl,rfl⟩;go_wp2_with fail;exact HP.o _ _ (cK HF.o.symm) ah
     |false=>
      have GC:=aa (show fR name=name.toList.isEmpty from(fo name).symm);have rz:(name.toList==[])=name.toList.isEmpty:=(by rw[nil_eq,fo]);rw[GC.o]at vI;cases hne:name.toList.isEmpty with
      |false=>
       rw[hne]at vI rz;have HF:=aa (show R=false by rw[vI];simp);go_wp2_with fail;refine(lW.o _ ah).mono ?_;rintro e w2 ⟨rfl,k2,rfl⟩;go_wp2_with fail;refine(om.o _ ah).mono ?_;rintro e w3 ⟨rfl,k3,rfl⟩;go_wp2_with fail;refine(oC.o _ ah).mono ?_;rintro e w4 ⟨rfl,k4,rfl⟩;go_wp2_with fail;exact HP.o _ _ (cK HF.o.symm) ah
      |true=>
       rw[hne]at vI rz;cases fc with
       |true=>
        generalize dN amount=z at vI CX;have HF:=aa (show R=z by rw[vI];simp);cases z with
        |true=>
         go_wp2_with fail;refine(lW.o _ ah).mono ?_;rintro e w2 ⟨rfl,k2,rfl⟩;go_wp2_with fail;refine(om.o _ ah).mono ?_;rintro e w3 ⟨rfl,k3,rfl⟩;go_wp2_with fail;refine(oC.o _ ah).mono ?_;rintro e w4 ⟨rfl,k4,rfl⟩;go_wp2_with fail;refine(CX.o _).mono ?_;rintro e w6 ⟨rfl,rfl⟩;go_wp2_with fail;exact HP.o _ _ (cK HF.o.symm) ah
        |false=>
         go_wp2_with fail;refine(lW.o _ ah).mono ?_;rintro e w2 ⟨rfl,k2,rfl⟩;go_wp2_with fail;refine(om.o _ ah).mono ?_;rintro e w3 ⟨rfl,k3,rfl⟩;go_wp2_with fail;refine(oC.o _ ah).mono ?_;rintro e w4 ⟨rfl,k4,rfl⟩;go_wp2_with fail;refine(CX.o _).mono ?_;rintro e w6 ⟨rfl,rfl⟩;go_wp2_with fail;exact HP.o _ _ (cK HF.o.symm) ah
       |false=>
        have HF:=aa (show R=decide (amount=0) by rw[vI];by_cases h:amount=0<;>simp[h]);go_wp2_with fail;refine(lW.o _ ah).mono ?_;rintro e w2 ⟨rfl,k2,rfl⟩;go_wp2_with fail;refine(om.o _ ah).mono ?_;rintro e w3 ⟨rfl,k3,rfl⟩;go_wp2_with fail;refine(oC.o _ ah).mono ?_;rintro e w4 ⟨rfl,k4,rfl⟩;go_wp2_with fail;exact HP.o _ _ (cK HF.o.symm) ah
end Go.Proofs.YtkfofnjfihfgkaaGreatDoor
namespace Go.Proofs.YtkfofnjfihfgkaaGreatDoor
open Go Go.RowKit
section
section
variable {P:Program} {ops:Array Oper} {md:Region.Mode} {S:World→Prop} {Q:Exit→Act→World→Prop} {D:List Nat}
def waits (md:Region.Mode) (ops:Array Oper):Nat→Nat→Nat→Bool
 |0,_,_=>false
 |f+1,j,d=>match ops[j]? with
  |some o=>(o.after.any fun e=>Region.binds md e&&e.on==d)||o.after.any fun e=>Region.binds md e&&waits md ops f e.on d
  |none=>false
def needs (md:Region.Mode) (ops:Array Oper) (D:List Nat) (j:Nat):Bool:=D.any fun d=> !waits md ops 12 j d
def Af (md:Region.Mode) (ops:Array Oper) (listed:Array Bool):Prop:=∀ j oj,ops[j]? =some oj→listed.getD j false=true→∀ e∈oj.after,Region.binds md e=true→listed.getD e.on false=true
theorem Af.set {listed:Array Bool} (h:Af md ops listed) {i:Nat} (hi:i∈Region.ready md ops listed):Af md ops (listed.setIfInBounds i true):=by
 obtain⟨_,oi,hoi,hall⟩:=mem_ready.1 hi;intro j oj hj hl e he hb;by_cases q:i=j
 (·subst q;have:oj=oi:=Option.some.inj (hj.symm.trans hoi);subst this;exact getD_set_true (hall e he hb));rw[getD_set_ne false q]at hl;exact getD_set_true (h j oj hj hl e he hb)
theorem mJ {listed:Array Bool} (h:Af md ops listed) {d:Nat}:∀ (f j:Nat),(∀ oj,ops[j]? =some oj→∀ e∈oj.after,Region.binds md e=true→listed.getD e.on false=true)→waits md ops f j d=true→listed.getD d false=true
 |0,_,_,hw=>by simp[waits]at hw
 |f+1,j,hr,hw=>by
  unfold waits at hw;split at hw
  ·next o ho=>
   rw[Bool.or_eq_true]at hw;rcases hw with hw|hw
   (·obtain⟨e,he,hq⟩:=Array.any_eq_true'.1 hw;rw[Bool.and_eq_true,beq_iff_eq]at hq;rw[← hq.2];exact hr o ho e he hq.1);obtain⟨e,he,hq⟩:=Array.any_eq_true'.1 hw;rw[Bool.and_eq_true]at hq;exact mJ h f e.on (fun oj hj x hx hb=>h e.on oj hj (hr o ho e he hq.1) x hx hb) hq.2
  cases hw
def HW (P:Program) (md:Region.Mode) (ops:Array Oper) (S:World→Prop) (Q:Exit→Act→World→Prop) (D:List Nat):List (Nat×Bool)→Act→World→Prop
 |[],a,w=>Q .normal a w
 |(i,false) :: r,a,w=>∃ oi v,ops[i]? =some oi∧YieldsIf P ops S oi v a∧HW P md ops S Q D r (a.put oi.dst v) w
 |(i,true) :: r,a,w=>wpOp P ops Q i (fun a' w'=>(needs md ops D i=true→S w')∧HW P md ops S Q D r a' w') a w
def sO (md:Region.Mode) (ops:Array Oper) (D:List Nat):Array Bool→List (Nat×Bool)→Bool
 |listed,[]=>(Region.ready md ops listed).isEmpty
 |listed,(i,false) :: r=>D.contains i&&(Region.ready md ops listed).contains i&&Region.free md ops listed i&&sO md ops D (listed.setIfInBounds i true) r
 |listed,(i,true) :: r=>decide (Region.ready md ops listed=[i])&&sO md ops D (listed.setIfInBounds i true) r
def VP (P:Program) (md:Region.Mode) (ops:Array Oper) (Q:Exit→Act→World→Prop) (S:World→Prop) (D:List Nat):Nat→Array Bool→Act→World→Prop
 |0,listed,a,w=>Region.ready md ops listed=[]∧Q .normal a w
 |f+1,listed,a,w=>(Region.ready md ops listed=[]→Q .normal a w)∧
  ∀ j∈Region.ready md ops listed,wpOp P ops Q j (fun a' w'=>(needs md ops D j=true→S w')∧VP P md ops Q S D f (listed.setIfInBounds j true) a' w') a w
theorem Kr:∀ (f:Nat) (listed:Array Bool) (a:Act) (w:World),VP P md ops Q S D f listed a w→wpAny P md ops Q f listed a w
 |0,_,_,_,h=>h
 |f+1,_,_,_,h=>⟨h.1,fun i hi=>wpOp_mono (fun a' w' h'=>Kr f _ a' w' h'.2) (h.2 i hi)⟩
theorem K_first {i:Nat} {oi:Oper} {v:Value} (hD:i∈D) (hi:ops[i]? =some oi) (hsel:∀ (j:Nat) (o:Oper) cs b,ops[j]? =some o→o.op≠ .select cs b) (hQ:∀ c a w,Q (.panic c) (a.put oi.dst v) w→Q (.panic c) a w) (f:Nat):∀ (listed:Array Bool) (a:Act) (w:World),Af md ops listed→(∀ j oj,ops[j]? =some oj→j≠i→listed.getD j true=false→(∀ e∈oj.after,Region.binds md e=true→e.on≠i)→oi.apart ops oj=true)→i∈Region.ready md ops listed→YieldsIf P ops S oi v a→S w→VP P md ops Q S D f (listed.setIfInBounds i true) (a.put oi.dst v) w→VP P md ops Q S D (f+1) listed a w:=by
 induction f with
 |zero=>
  intro listed a w _ _ hr hy hS H;refine⟨fun h=>aaj,fun j hj=>?_⟩;by_cases e:j=i
  (·subst e;exact hy.wpOp hi hS ⟨fun _=>hS,H⟩);have h1:=ready_mono hj e;rw[H.1]at h1;cases h1
 |succ f ih=>
  intro listed a w hsh hfree hr hy hS H;refine⟨fun h=>aaj,fun j hj=>?_⟩;by_cases e:j=i
  (·subst e;exact hy.wpOp hi hS ⟨fun _=>hS,H⟩);obtain⟨YB,oj,Js,hall⟩:=mem_ready.1 hj;have hun:=(mem_ready.1 hr).1;have hnot:∀ e∈oj.after,Region.binds md e=true→e.on≠i:=fun x hx hb q=>by
   have h1:=hall x hx hb;rw[q,getD_both hun]at h1;cases h1
  have QF:needs md ops D j=true:=List.any_eq_true.2 ⟨i,hD,by
   rw[Bool.not_eq_true'];cases hw:waits md ops 12 j i with
   |false=>rfl
   |true=>
    have h1:=mJ hsh 12 j (fun o ho x hx hb=>by
     have:o=oj:=Option.some.inj (ho.symm.trans Js);subst this;exact hall x hx hb) hw
    rw[getD_both hun]at h1;cases h1⟩
  have h2:=wpOp_putIf Js (hfree j oj Js e YB hnot) (fun cs b=>hsel i oi cs b hi) (fun cs b=>hsel j oj cs b Js) hQ hy (H.2 j (ready_mono hj e));refine wpOp_mono (fun a' w' h3=>⟨fun _=>h3.2.1 QF,ih (listed.setIfInBounds j true) a' w' (hsh.set hj) (fun k ok hk hki hu hno=>?_) (ready_mono hr (Ne.symm e)) h3.1 (h3.2.1 QF) (by rw[Array.setIfInBounds_comm _ _ e];exact h3.2.2)⟩) h2;refine hfree k ok hk hki ?_ hno;by_cases q:j=k
  (·subst q;exact YB);rw[getD_set_ne true q]at hu;exact hu
theorem yY (hsel:Region.noSelect ops=true) (hQ:∀ (d:Option Tmp) (v:Value) c a w,Q (.panic c) (a.put d v) w→Q (.panic c) a w):∀ (ord:List (Nat×Bool)) (listed:Array Bool) (a:Act) (w:World),Af md ops listed→
 sO md ops D listed ord=true→((∃ d∈D,listed.getD d true=false)→S w)→HW P md ops S Q D ord a w→VP P md ops Q S D ord.length listed a w
 |[],listed,a,w,_,hB,_,h=>⟨by simpa [sO]using hB,h⟩
 |(i,false) :: r,listed,a,w,hsh,hB,hS,⟨oi,v,hi,hy,h⟩=>by
  simp only[sO,Bool.and_eq_true]at hB;obtain⟨⟨⟨hD,hr⟩,hf⟩,hB'⟩:=hB;have hD':i∈D:=(by simpa using hD);have hr':i∈Region.ready md ops listed:=(by simpa using hr);have hSw:S w:=hS ⟨i,hD',(mem_ready.1 hr').1⟩;exact K_first hD' hi (Region.noSelect_spec hsel) (hQ oi.dst v) r.length listed a w hsh (Region.free_spec hi hf) hr' hy hSw (yY hsel hQ r _ _ w (hsh.set hr') hB' (fun _=>hSw) h)
 |(i,true) :: r,listed,a,w,hsh,hB,hS,h=>by
  simp only[sO,Bool.and_eq_true,decide_eq_true_eq]at hB;refine⟨fun h0=>(by rw[hB.1]at h0;cases h0),fun j hj=>?_⟩;rw[hB.1]at hj;(obtain rfl:j=i:=by simpa using hj);have hj':j∈Region.ready md ops listed:=(by rw[hB.1];simp);refine wpOp_mono (fun a' w' h3=>⟨h3.1,yY hsel hQ r _ a' w' (hsh.set hj') hB.2 (fun⟨d,hd,hu⟩=>?_) h3.2⟩) h;refine h3.1 (List.any_eq_true.2 ⟨d,hd,?_⟩);rw[Bool.not_eq_true'];cases hw:waits md ops 12 j d with
  |false=>rfl
  |true=>
   obtain⟨_,oj,Js,hall⟩:=mem_ready.1 hj';have h1:=getD_set_true (i:=j) (mJ hsh 12 j (fun o ho x hx hb=>by
    have:o=oj:=Option.some.inj (ho.symm.trans Js);subst this;exact hall x hx hb) hw)
   rw[getD_both hu]at h1;cases h1
theorem eP {id:Nat} {a:Act} {w:World} {l:List Oper} (D:List Nat) (ord:List (Nat×Bool)) (hm:P.follows .mixedOrders=true) (hsel:Region.noSelect l.toArray=true) (hQ:∀ (d:Option Tmp) (v:Value) c a w,Q (.panic c) (a.put d v) w→Q (.panic c) a w) (hn:ord.length=l.length) (hB:sO .any l.toArray D (Array.replicate l.toArray.size false) ord=true) (hS:S w.drew) (h:HW P .any l.toArray S Q D ord a w.drew):(Code.region id l.toArray true).wp P Q a w:=by
 refine wp_region_any hm ?_;have:=Kr _ _ _ _ (yY (P:=P) (md:= .any) hsel hQ ord _ a w.drew (fun j oj _ hl=>(by rw[getD_replicate_false]at hl;cases hl)) hB (fun _=>hS) h);rw[hn]at this;simpa using this
theorem lq {a:Act} {w:World} (h:Q .normal a w):HW P md ops S Q D [] a w:=h
theorem hw_turn {i:Nat} {oi:Oper} {r:List (Nat×Bool)} {a:Act} {w:World} (hi:ops[i]? =some oi)
 (h:∀ K':Act→World→Prop,Shut (∀ a w,S w→HW P md ops S Q D r a w→K' a w)→if Region.wanted oi (yielded ops a.tmps)=true then Oper.wp P oi a w K' Q else K' (a.put oi.dst undef) w):HW P md ops S Q D ((i,true) :: r) a w:=
 wpOp_step hi (fun K' hK=>h K' (fun a w hS hW=>hK a w ⟨fun _=>hS,hW⟩))
theorem hw_end {i:Nat} {oi:Oper} {r:List (Nat×Bool)} {a:Act} {w:World} (hi:ops[i]? =some oi) (hn:needs md ops D i=false)
 (h:∀ K':Act→World→Prop,Shut (∀ a w,HW P md ops S Q D r a w→K' a w)→if Region.wanted oi (yielded ops a.tmps)=true then Oper.wp P oi a w K' Q else K' (a.put oi.dst undef) w):HW P md ops S Q D ((i,true) :: r) a w:=
 wpOp_step hi (fun K' hK=>h K' (fun a w hW=>hK a w ⟨fun q=>(by rw[hn]at q;cases q),hW⟩))
end
end
section
section
variable {P:Program} {ops:Array Oper} {md:Region.Mode} {S:World→Prop} {Q:Exit→Act→World→Prop} {D:List Nat}
theorem hwr {i:Nat} {d:Option Tmp} {op:Op} {ty:TypeId} {pos:String} {xz:Array Edge} {gd:Option (Nat×Bool)} {v:Value} {r:List (Nat×Bool)} {a a':Act} {w:World} (h:HW P md ops S Q D r (a'.put d v) w) (ha:a=a':=by first|(simp only[Act.put,List.setIfInBounds_toArray,List.set_cons_zero,List.set_cons_succ];done)|(simp only[Act.put,List.setIfInBounds_toArray,List.set_cons_zero,List.set_cons_succ];rfl)|rfl) (hi:ops[i]? =some ⟨d,op,ty,pos,xz,gd⟩:=by rfl) (hw:Region.wanted ⟨d,op,ty,pos,xz,gd⟩ (yielded ops a'.tmps)=true:=by kernel_rfl)
 (hy:∀ W,S W→(execOp a'.eval ⟨d,op,ty,pos,xz,gd⟩).run P W= .ok (.value v) W:=by
  intro wq hSw;(try dsimp only at hSw);first
   |(go_simp;done)
   |(go_simp;with_reducible rfl)
   |(subst hSw;first|(go_simp;done)|(go_simp;with_reducible rfl))
   |(obtain⟨u,rfl⟩:=hSw;first|(go_simp;done)|(go_simp;with_reducible rfl))
   |(obtain⟨hS1,hS2⟩:=hSw;first|(go_simp;done)|(go_simp;with_reducible rfl))
   |(obtain⟨hS1,hS2,hS3,hS4⟩:=hSw;first|(go_simp;done)|(go_simp;with_reducible rfl))):HW P md ops S Q D ((i,false) :: r) a w:=ha▸⟨⟨d,op,ty,pos,xz,gd⟩,v,hi,.inl ⟨hw,hy⟩,h⟩
theorem hws {i:Nat} {d:Option Tmp} {op:Op} {ty:TypeId} {pos:String} {xz:Array Edge} {gd:Option (Nat×Bool)} {r:List (Nat×Bool)} {a a':Act} {w:World} (h:HW P md ops S Q D r (a'.put d undef) w) (ha:a=a':=by first|(simp only[Act.put,List.setIfInBounds_toArray,List.set_cons_zero,List.set_cons_succ];done)|(simp only[Act.put,List.setIfInBounds_toArray,List.set_cons_zero,List.set_cons_succ];rfl)|rfl) (hi:ops[i]? =some ⟨d,op,ty,pos,xz,gd⟩:=by rfl) (hw:Region.wanted ⟨d,op,ty,pos,xz,gd⟩ (yielded ops a'.tmps)=false:=by kernel_rfl):
 HW P md ops S Q D ((i,false) :: r) a w:=ha▸⟨⟨d,op,ty,pos,xz,gd⟩,undef,hi,.inr ⟨hw,rfl⟩,h⟩
theorem hwt {i:Nat} {d:Option Tmp} {op:Op} {ty:TypeId} {pos:String} {xz:Array Edge} {gd:Option (Nat×Bool)} {r:List (Nat×Bool)} {a a':Act} {w:World}
 (h:∀ K':Act→World→Prop,Shut (∀ a w,S w→HW P md ops S Q D r a w→K' a w)→if Region.wanted ⟨d,op,ty,pos,xz,gd⟩ (yielded ops a'.tmps)=true then Oper.wp P ⟨d,op,ty,pos,xz,gd⟩ a' w K' Q else K' (a'.put d undef) w) (ha:a=a':=by first|(go_frame;done)|(go_frame;rfl)|rfl) (hi:ops[i]? =some ⟨d,op,ty,pos,xz,gd⟩:=by rfl):HW P md ops S Q D ((i,true) :: r) a w:=ha▸hw_turn hi h
theorem Bw {i:Nat} {d:Option Tmp} {op:Op} {ty:TypeId} {pos:String} {xz:Array Edge} {gd:Option (Nat×Bool)} {r:List (Nat×Bool)} {a a':Act} {w:World}
 (h:∀ K':Act→World→Prop,Shut (∀ a w,HW P md ops S Q D r a w→K' a w)→if Region.wanted ⟨d,op,ty,pos,xz,gd⟩ (yielded ops a'.tmps)=true then Oper.wp P ⟨d,op,ty,pos,xz,gd⟩ a' w K' Q else K' (a'.put d undef) w) (ha:a=a':=by first|(go_frame;done)|(go_frame;rfl)|rfl) (hi:ops[i]? =some ⟨d,op,ty,pos,xz,gd⟩:=by rfl) (hn:needs md ops D i=false:=by kernel_rfl):HW P md ops S Q D ((i,true) :: r) a w:=ha▸hw_end hi hn h
end
end
end Go.Proofs.YtkfofnjfihfgkaaGreatDoor
namespace Go.Proofs.YtkfofnjfihfgkaaGreatDoor
open Go Go.RowKit Bg Go.Proofs Sh Kb
theorem Ks:∀ args w,(callFunc 63 args).run prog w= .ok (.enter 63 args) w:=enters_of func63 ai rfl
theorem Kt (x:dV) (A1 A2 A3:Option Addr) (c1 c2 c3:Nat) (w:World) (hs1:Sq dw w Any A1 x.inp) (hs2:Sq dw w Any A2 x.o) (hs3:Sq dw w Any A3 x.cells) (hz:yD x):Calls prog 63 #[.agg #[bR x.kind,bQ A1 x.inp c1,bQ A2 x.o c2,bV x.name,bQ A3 x.cells c3,bR x.amount]] w fun e w'=>e= .returned (.bool (!dO x))∧Below w w w':=by
 have ju:=aa (show Below w w (w.alloc (.cells #[bR x.kind,bQ A1 x.inp c1,bQ A2 x.o c2,bV x.name,bQ A3 x.cells c3,bR x.amount] 65))from(Below.refl _ w).alloc (Nat.le_refl _) _);have HS:=aa (ES x A1 A2 A3 c1 c2 c3 _ (hs1.bU ju.o) (hs2.bU ju.o) (hs3.bU ju.o) ⟨hz.inp.1,hz.o.1,hz.cells.1,hz.name⟩ ⟨hz.inp.2,hz.o.2,hz.cells.2⟩);clear hs1 hs2 hs3 hz;generalize dO x=r at HS ⊢;go_enter func63,ntmps63;go_wp2_with fail;refine(HS.o).mono ?_;rintro e w1 ⟨rfl,hb⟩;have HB:=aa (ju.o.trans (hb.mono aj));clear hb HS ju;go_wp2_with fail;go_ret;exact⟨rfl,HB.o⟩
theorem Su (l:List dV) (h:∀ s∈l,yD s) {w:World}:jN prog 63 #[] gT (fun y=> !dO y) l w:=fun W cs x hx ep _=>by
 obtain⟨A1,c1,A2,c2,A3,c3,hc,k1,k2,k3⟩:=ep;subst hc;exact Kt x A1 A2 A3 c1 c2 c3 W k1 k2 k3 (h x hx)
def FO (b:Bool) (w:World) (e:Ending) (w':World):Prop:=e= .returned (.bool b)∧Below w w w'
theorem Two.bU {g m B:Nat} {w w' w0:World} (h0:Below B w0 w) (h:Two g m w w') (hg:B≤g) (hm:B≤m) (hB:B≤w.heap.size):Below B w0 w':=
 h0.trans ⟨h.1,h.2.1,h.2.2.1,h.2.2.2.1,fun b hb=>h.2.2.2.2 b af af af⟩
theorem FP {w w1:World} {ok:Bool} {g m:Nat} (hm:m=w.heap.size) (hg:g=w.heap.size+1):iL ((w.alloc (.map #[] 0)).alloc (.cells #[.map (some m),.bool ok] 111)) g m [] ok:=by
 subst hm hg;refine⟨?_,(ig.made w).alloc _,by omega⟩;have:=heap_alloc_new (w.alloc (.map #[] 0)) (.cells #[.map (some w.heap.size),.bool ok] 111);have e:(w.alloc (.map #[] 0)).heap.size=w.heap.size+1:=aj;rw[e]at this;exact this
theorem gM (a:dU) (s:bY) (w:World) (hI:cB w Any a s) (hZ:fe s):Calls prog 17 #[.agg (cn a s).toArray] w (FO (cN s) w):=by
 obtain⟨A1,k1,A2,k2,A3,k3,A4,k4,A5,k5,A6,k6,A7,k7,A8,k8⟩:=a;simp only[cn];have HI:=aa hI;have HZ:=aa hZ;have HF:=aa (fun W=>kY s.name W hZ.name);have HB:=aa (show cN s=(cT s.name&&oV [] (uses s)&&decide ((uses s).length+s.bX.length≤100)&&oV [] (s.bX.map fun x=>(x.kind,dW x)))from rfl);have hlen:(uses s).length+s.bX.length≤1000000000000:=hZ.len;generalize cN s=R at HB ⊢;generalize hP:FO R w=P;have HP:=aa (show ∀ e w',e= .returned (.bool R)→Below w w w'→P e w' from fun e w' h1 h2=>by rw[← hP];exact⟨h1,h2⟩);generalize hok:cT s.name=YT at HF HB;have HOKN:=aa hok;clear hP hI hZ hok;have hmm:=@run_makeMap prog;go_enter func17,ntmps17;go_wp2_with fail;refine(HF.o _).mono ?_;rintro e w0 ⟨rfl,rfl⟩;go_wp2_with fail;generalize hW0:(((w.alloc (.cells (cz s A1 A2 A3 A4 A5 A6 A7 A8 k1 k2 k3 k4 k5 k6 k7 k8) 31)).alloc (.map #[] 0)).alloc (.cells #[.map (some (w+1)),.bool YT] 111))=W0;have ju:=aa (show Below w w W0 by rw[← hW0];exact((cJ _).alloc aj _).alloc aq _);have hz0:W0.heap.size=w.heap.size+3:=(by rw[← hW0];simp);have jc:=aa (show iL W0 (w+1+1) (w+1) [] YT by rw[← hW0];exact FP (w1:=w) aj aj);have EI:=aa (show cH W0 w 31 (cz s A1 A2 A3 A4 A5 A6 A7 A8 k1 k2 k3 k4 k5 k6 k7 k8) by rw[← hW0];exact((show cH (w.alloc (.cells (cz s A1 A2 A3 A4 A5 A6 A7 A8 k1 k2 k3 k4 k5 k6 k7 k8) 31)) w 31 (cz s A1 A2 A3 A4 A5 A6 A7 A8 k1 k2 k3 k4 k5 k6 k7 k8)from heap_alloc_new _ _).alloc _).alloc _);have HIS:=aa (show cB W0 (fun b=>b≠w.heap.size+1+1∧b≠w.heap.size+1) ⟨A1,k1,A2,k2,A3,k3,A4,k4,A5,k5,A6,k6,A7,k7,A8,k8⟩ s from(HI.o.mono (S':=fun b=>b≠w.heap.size+1+1∧b≠w.heap.size+1) fun b hb _=>⟨by omega,by omega⟩).bU ju.o);clear hW0;have HUS:=aa (show ei s++eE s=uses s from rfl);have Ku:(ei s).length≤1000000000000:=(by rw[← HUS.o,List.length_append]at hlen;omega);have hlf:(ei s).length+(eE s).length≤1000000000000:=(by rw[← HUS.o,List.length_append]at hlen;omega);have s0:bW W0 w 0 (bV s.name):=EI.o.cell 0;have s1:bW W0 w 1 (bQ A1 s.imports k1):=EI.o.cell 1;have s2:bW W0 w 2 (bQ A2 s.inputs k2):=EI.o.cell 2;have s3:bW W0 w 3 (bQ A3 s.tables k3):=EI.o.cell 3;have s4:bW W0 w 4 (bQ A4 s.funcs k4):=EI.o.cell 4;have s5:bW W0 w 5 (bQ A5 s.cells k5):=EI.o.cell 5;have s6:bW W0 w 6 (bQ A6 s.b9 k6):=EI.o.cell 6;have s7:bW W0 w 7 (bQ A7 s.stores k7):=EI.o.cell 7;have s8:bW W0 w 8 (bQ A8 s.bX k8):=EI.o.cell 8;have HG:=aa (Km (w+1+1) (w+1) [] YT ⟨A1,k1,A2,k2,A3,k3,A4,k4,A5,k5,A6,k6,A7,k7,A8,k8⟩ s W0 jc.o HIS.o HZ.o (by simpa using Ku));simp only[cn]at HG;go_wp2_with fail;refine(HG.o).mono ?_;rintro e w1 ⟨rfl,hsc1,yZ⟩;have HSC1:=aa hsc1;have HTW1:=aa yZ;have HIS1:=aa (HIS.o.keep yZ.keeps);have hz1:=yZ.2.2.2.1;have t0:bW w1 w 0 (bV s.name):=(yZ.cell af af af).trans s0;have t1:bW w1 w 1 (bQ A1 s.imports k1):=(yZ.cell af af af).trans s1;have t2:bW w1 w 2 (bQ A2 s.inputs k2):=(yZ.cell af af af).trans s2;have t3:bW w1 w 3 (bQ A3 s.tables k3):=(yZ.cell af af af).trans s3;have t4:bW w1 w 4 (bQ A4 s.funcs k4):=(yZ.cell af af af).trans s4;have t5:bW w1 w 5 (bQ A5 s.cells k5):=(yZ.cell af af af).trans s5;have t6:bW w1 w 6 (bQ A6 s.b9 k6):=(yZ.cell af af af).trans s6;have t7:bW w1 w 7 (bQ A7 s.stores k7):=(yZ.cell af af af).trans s7;have t8:bW w1 w 8 (bQ A8 s.bX k8):=(yZ.cell af af af).trans s8;clear hsc1 yZ HG s0 s1 s2 s3 s4 s5 s6 s7 s8;have HG:=aa (CY (w+1+1) (w+1) (fU [] (ei s)) (okF [] YT (ei s)) ⟨A1,k1,A2,k2,A3,k3,A4,k4,A5,k5,A6,k6,A7,k7,A8,k8⟩ s w1 HSC1.o HIS1.o HZ.o (by rw[fq];simpa using hlf));simp only[cn]at HG;go_wp2_with fail;refine(HG.o).mono ?_;rintro e w2 ⟨rfl,hsc2,VQ⟩;have HSC2:=aa (show iL w2 (w+1+1) (w+1) (fU [] (uses s)) (okF [] YT (uses s)) by rw[← HUS.o,qJ,vr];exact hsc2);have HTW2:=aa (HTW1.o.trans VQ);have HIS2:=aa (HIS1.o.keep VQ.keeps);have hz2:=VQ.2.2.2.1;have t8':bW w2 w 8 (bQ A8 s.bX k8):=(VQ.cell af af af).trans t8;clear hsc2 VQ HG jc HSC1 HIS HIS1 HTW1 EI t0 t1 t2 t3 t4 t5 t6 t7 t8;have eT:=aa (Two.bU ju.o HTW2.o af af af);have hoke:okF [] YT (uses s)=(YT&&oV [] (uses s)):=okF_eq _ _ _;have q0:bW w2 (w+1+1) 0 (.map (some (w+1))):=HSC2.o.1.cell 0;have q1:bW w2 (w+1+1) 1 (.bool (okF [] YT (uses s))):=HSC2.o.1.cell 1;have Bx:=aa hoke;have HB:=aa (show R=(okF [] YT (uses s)&&decide ((uses s).length+s.bX.length≤100)&&oV [] (s.bX.map fun x=>(x.kind,dW x))) by rw[HB.o,hoke]);clear hoke;generalize hok:okF [] YT (uses s)=ok2 at q1 HB;have Md:=aa hok;clear hok;cases ok2 with
 |false=>
  have Mb:=aa (show R=false by rw[HB.o];rfl);clear HB;go_wp2_with fail;refine eP (S:=fun W'=>W'=w2.drew) [0,1,2,3,4,5,6,11,7,12,8,13,9,10,14,15,16] [(0,false),(1,false),(2,false),(3,false),(4,false),(5,false),(6,false),(11,false),(7,false),(12,false),(8,false),(13,false),(9,false),(10,false),(14,false),(15,false),(16,false)] ai ai au rfl ai (rfl) ?_;(iterate 6 refine hwr ?_);(iterate 10 refine hws ?_);refine hwr ?_;refine lq ?_;(try go_frame);go_wp2_with fail;exact HP.o _ _ (cK Mb.o.symm) ⟨eT.o.os,eT.o.tape,eT.o.output,eT.o.size,eT.o.block⟩
 |true=>
  have HB:=aa (show R=(decide ((uses s).length+s.bX.length≤100)&&oV [] (s.bX.map fun x=>(x.kind,dW x))) by rw[HB.o];rfl);(have hub:oV [] (uses s)=true:=by have h9:=Bx.o;rw[Md.o]at h9;simp at h9;exact h9.2);have LX:(fU [] (uses s)).length=(uses s).length:=(by rw[fq];rfl);(have hlm:(Builtin.len_ #[99] 3 #[.map (some (w+1))]).run prog w2.drew= .ok (bR ((uses s).length:Int)) w2.drew:=by have h9:=(ig.of_block (w':=w2.drew) HSC2.o.2.1 rfl).len (wU _ _ List.nodup_nil hub) 3;rw[LX]at h9;exact h9);clear hub LX Bx Md;generalize (uses s).length=nu at hlm HB hlen;have hsum:IntKind.i64.wrap ((nu:Int)+(s.bX.length:Int))=(nu:Int)+(s.bX.length:Int):=fC af;by_cases hmx:nu+s.bX.length≤100;(case neg=>have e1:decide ((100:Int)<(nu:Int)+(s.bX.length:Int))=true:=aq;have Mb:=aa (show R=false by rw[HB.o];simp[hmx]);clear HB hmx;go_wp2_with fail;refine eP (S:=fun W'=>W'=w2.drew) [0,1,2,3,4,5,6,11,7,12,8,13,9,10,14,15,16] [(0,false),(1,false),(2,false),(3,false),(4,false),(5,false),(6,false),(11,false),(7,false),(12,false),(8,false),(13,false),(9,false),(10,false),(14,false),(15,false),(16,false)] ai ai au rfl ai (rfl) ?_;(iterate 17 refine hwr ?_);refine lq ?_;(try go_frame);go_wp2_with fail;exact HP.o _ _ (cK Mb.o.symm) ⟨eT.o.os,eT.o.tape,eT.o.output,eT.o.size,eT.o.block⟩);have e1:decide ((100:Int)<(nu:Int)+(s.bX.length:Int))=false:=aq;have hrl:s.bX.length≤100:=af;have HB:=aa (show R=oV [] (s.bX.map fun x=>(x.kind,dW x)) by rw[HB.o];simp[hmx]);clear hmx;go_wp2_with fail;refine eP (S:=fun W'=>W'=w2.drew) [0,1,2,3,4,5,6,11,7,12,8,13,9,10,14,15,16] [(0,false),(1,false),(2,false),(3,false),(4,false),(5,false),(6,false),(11,false),(7,false),(12,false),(8,false),(13,false),(9,false),(10,false),(14,false),(15,false),(16,false)] ai ai au rfl ai (rfl) ?_;(iterate 17 refine hwr ?_);refine lq ?_;(try go_frame);clear hlm hsum e1 q0 q1 HSC2;have hlt2:w.heap.size<w2:=af;go_wp2_with fail;generalize hW3:((w2.alloc (.map #[] 0)).alloc (.cells #[.map (some w2.heap.size),.bool true] 111)).drew=W0k;have gV:=aa (show Below w w W0k by rw[← hW3];exact(((eT.o).alloc eT.o.size _).alloc (by have:=eT.o.size;simp;omega) _).drew);have hz3:W0k.heap.size=w2.heap.size+2:=(by rw[← hW3];simp);have mh:=aa (gW.start (show iL W0k (w2+1) w2 [] true by rw[← hW3];exact(show iL ((w2.alloc (.map #[] 0)).alloc (.cells #[.map (some w2.heap.size),.bool true] 111)) (w2+1) w2 [] true from FP (w1:=w) rfl rfl).bU ⟨rfl,rfl,rfl,Nat.le_refl _,fun _ _=>rfl⟩));have HIR:=aa (show Sq dL W0k (fun b=>b≠w2.heap.size+1∧b≠w2.heap.size) A8 s.bX by rw[← hW3];exact(((HIS2.o.bX.mono (S':=fun b=>b≠w2.heap.size+1∧b≠w2.heap.size) (fun b hb _=>⟨by omega,by omega⟩)).keep (cA.cj (cJ _))).keep (cA.cj (cJ _))).keep ⟨Nat.le_refl _,fun _ _ _=>rfl⟩);clear hW3 HIS2 HTW2;go_loopw [42] (fun v wr=>∃ k:Nat,k≤s.bX.length∧v=bR (k:Int)∧Hid (gW W0k wr (w2+1) w2 [] true ((s.bX.take k).map (fun x:cw=>(x.kind,dW x))))) (fun v _=>s.bX.length - (intOf v).toNat);(case atStart=>exact⟨0,Nat.zero_le _,rfl,aa bN⟩);obtain⟨k,hk,rfl,jc⟩:=hrel;clear mh;have hwr:=jc.o.2.2.2.2.1;have yU:=aa (HIR.o.keep jc.o.2.keeps);by_cases hlt:k<s.bX.length;case pos=>
   obtain⟨bi,oi,cs,fI,_,CC,ep,dn⟩:=yU.o.get hlt;subst fI;have ew:=aa (ij (fun x:cw=>(x.kind,dW x)) hlt);have hsm:=HZ.o.bX _ (List.getElem_mem hlt);have kK:=aa (show(fU [] ((s.bX.take k).map (fun x:cw=>(x.kind,dW x)))).length<maxLen by rw[fq];simp only[List.length_map,List.length_take,List.length_nil];unfold maxLen;omega);generalize s.bX[k]=r at ep hsm ew;obtain⟨nm,steps⟩:=r;obtain⟨A,c,hcs,hSt⟩:=ep;subst hcs;have HSt:=aa hSt.all;have HSm:=aa hsm;have hnm:nm.size≤maxLen:=hsm.kind;have hst:steps.length≤maxLen:=hsm.steps;have HMl:=aa hst;have b0:bW wr bi (oi+k*2) (bV nm):=dn 0 _ rfl;have b1:bW wr bi (oi+k*2+1) (bQ A steps c):=dn 1 _ rfl;clear dn hsm yU hwr hSt hst;go_wp2_with fail;generalize hW1:(wr.alloc (.cells #[bV nm,bQ A steps c] 62))=W1;have cF:=aa (show Below wr wr W1 by rw[← hW1];exact cJ _);have c0:∀ u:eW W1,bW u.at wr.heap.size 0 (bV nm):=fun u=>u.cell aA;have c1:∀ u:eW W1,bW u.at wr.heap.size 1 (bQ A steps c):=fun u=>u.cell aA;clear hW1 b0 b1;have gG:=aa (show(decide (steps.length≤100)&&steps.all dO)=((fun x:cw=>(x.kind,dW x)) ⟨nm,steps⟩).2 from rfl);have ew:=aa (show(s.bX.take (k+1)).map (fun x:cw=>(x.kind,dW x))=(s.bX.take k).map (fun x:cw=>(x.kind,dW x))++[(nm,((fun x:cw=>(x.kind,dW x)) ⟨nm,steps⟩).2)]from ew.o);generalize ((fun x:cw=>(x.kind,dW x)) ⟨nm,steps⟩).2=bu at gG ew;have HCn:=aa (fun u:eW W1=>EE (fun y=> !dO y) 63 #[] Ks A c steps u.at (Su steps HSm.o.each) HMl.o (HSt.o.bU (cF.o.trans (u.bU.mono cF.o.size))));have Kp:=aa (show(!(steps.any fun y=> !dO y))=steps.all dO by rw[← List.not_all_eq_any_not,Bool.not_not]);generalize (steps.any fun y=> !dO y)=an at Kp HCn;clear HSm HSt HMl;by_cases hs1:steps.length≤100;(case pos=>have e1:decide ((steps.length:Int)≤100)=true:=aq;have gG:=aa (show(true&& !an)=bu by rw[← gG.o,Kp.o];simp[hs1]);clear Kp hs1;refine eP (S:=fun w'=>∃ u:eW W1,w'=u.at) [0,1,3,2,4,5,6,7,8,9,11,12] [(0,false),(1,false),(3,false),(2,false),(4,false),(5,false),(6,false),(7,false),(8,false),(9,false),(10,true),(11,false),(12,false),(13,true)] ai ai au rfl ai (fT.drew) ?_;(iterate 10 refine hwr ?_);refine hwt fun K hK=>?_;go_simp;refine(HCn.o ⟨W1.drew,fT.UD⟩).mono ?_;rintro e w5 ⟨rfl,fH⟩;have HU:=aa (show Below W1 W1 w5 from⟨fH.os,fH.tape,fH.output,fH.size,fH.block⟩);clear fH;refine hK.o _ _ (⟨⟨w5,HU.o⟩,rfl⟩) ?_;clear hK K;refine hwr ?_;refine hwr ?_;refine Bw fun K hK=>?_;go_simp;refine(eV _ _ _ _ _ _ nm _ hnm (jc.o.1.bU (cF.o.trans (HU.o.mono cF.o.size))) kK.o).mono ?_;intro e w8 hu;have HE:=aa (jc.o.one (cF.o.trans (HU.o.mono cF.o.size)) gG.o hu);obtain⟨rfl,_⟩:=hu;clear cF jc HU kK;refine hK.o _ _ ?_;clear hK K;refine lq ?_;(try go_frame);go_wp2_with fail;go_roundw;(case rel=>exact⟨k+1,by omega,rfl,aa (by rw[ew.o];exact HE.o)⟩);(case measure=>simp[intOf];omega));have e1:decide ((steps.length:Int)≤100)=false:=aq;have gG:=aa (show(true&&false)=bu by rw[← gG.o];simp[hs1]);clear Kp hs1;have HU:=aa (show Below W1 W1 W1.drew from fT.UD);refine eP (S:=fun w'=>∃ u:eW W1,w'=u.at) [0,1,3,2,4,5,6,7,8,9,10,11,12] [(0,false),(1,false),(3,false),(2,false),(4,false),(5,false),(6,false),(7,false),(8,false),(9,false),(10,false),(11,false),(12,false),(13,true)] ai ai au rfl ai (fT.drew) ?_;(iterate 8 refine hwr ?_);(iterate 4 refine hws ?_);refine hwr ?_;refine Bw fun K hK=>?_;go_simp;refine(eV _ _ _ _ _ _ nm _ hnm (jc.o.1.bU (cF.o.trans (HU.o.mono cF.o.size))) kK.o).mono ?_;intro e w8 hu;have HE:=aa (jc.o.one (cF.o.trans (HU.o.mono cF.o.size)) gG.o hu);obtain⟨rfl,_⟩:=hu;clear cF jc HU kK;refine hK.o _ _ ?_;clear hK K;refine lq ?_;(try go_frame);go_wp2_with fail;go_roundw;(case rel=>exact⟨k+1,by omega,rfl,aa (by rw[ew.o];exact HE.o)⟩);(case measure=>simp[intOf];omega)
  (obtain rfl:k=s.bX.length:=by omega);have HSE:=aa (show gW W0k wr (w2+1) w2 [] true (s.bX.map (fun x:cw=>(x.kind,dW x))) by have h9:=jc.o;rw[List.take_length]at h9;exact h9);have HBE:=aa (Two.bU gV.o HSE.o.2 (by have:=eT.o.size;omega) (by have:=eT.o.size;omega) (by have:=eT.o.size;omega));have Mb:=aa (show R=okF [] true (s.bX.map (fun x:cw=>(x.kind,dW x))) by rw[HB.o,okF_eq];rfl);have q1:bW wr (w2+1) 1 (.bool (okF [] true (s.bX.map (fun x:cw=>(x.kind,dW x))))):=HSE.o.1.1.cell 1;generalize okF [] true (s.bX.map (fun x:cw=>(x.kind,dW x)))=z at q1 Mb;clear jc hwr yU hlt HSE;go_wp2_with fail;exact HP.o _ _ (cK Mb.o.symm) HBE.o
end Go.Proofs.YtkfofnjfihfgkaaGreatDoor
