/- Parts of the proof, packed (FewT to LwP); each theorem bears its own conditions. -/
import Derived.Test.YtfppbjfnllhgcaaGreatPp13
set_option linter.unusedVariables false
set_option linter.unusedSimpArgs false
set_option maxRecDepth 100000
set_option maxHeartbeats 8000000
open Go.Proofs.Tryz
open Go.Lib renaming hid → aa
open Nat renaming le_refl→aaB,lt_of_lt_of_le→aaD,le_trans→aaC,zero_le→aaG
open List renaming getElem_mem→aan,take_of_length_le→aax,take_succ_eq_append_getElem→aaz
open Go.RowKit.Below renaming refl→aaf
namespace Go.Proofs.YtfppbjfnllhgcaaGreat
section
open Go Go.RowKit Bg Go.Proofs Sh Kb
theorem KW {s:cK} (h:Lit s):s.imports.length≤10000000∧s.inputs.length≤10000000∧s.tables.length≤10000000∧s.funcs.length≤10000000∧s.cells.length≤10000000∧s.ei.length≤10000000∧s.stores.length≤10000000∧s.cI.length≤10000000:=by
 have h0:=h.uses;have h8:=h.ID;have h1:(Sh.uses s).length=s.imports.length+s.inputs.length+s.ei.length+s.stores.length+(s.tables.length+s.funcs.length)+s.cells.length:=(by simp[Sh.uses,gP,iA];omega);omega
def Vr (w:World) (e:Ending) (w':World):Prop:=∃ n:Int,e= .returned (bU n)∧Below w w w'
theorem Q7 (a:j6) (s:cK) (w:World) (hl:Lit s):Calls prog 23 #[.agg (dU a s).toArray] w (Vr w):=by
 obtain⟨h1,h2,h3,h4,h5,h6,h7,h8⟩:=KW hl;obtain⟨A1,q1,A2,q2,A3,q3,A4,q4,A5,q5,A6,q6,A7,q7,A8,q8⟩:=a;simp only[dU];generalize hP:Vr w=P;have HP:=aa (show ∀ e w',Vr w e w'→P e w' from fun e w' h=>hP▸h);clear hP hl;generalize s.imports.length=n1 at h1 ⊢;generalize s.inputs.length=n2 at h2 ⊢;generalize s.tables.length=n3 at h3 ⊢;generalize s.funcs.length=n4 at h4 ⊢;generalize s.cells.length=n5 at h5 ⊢;generalize s.ei.length=n6 at h6 ⊢;generalize s.stores.length=n7 at h7 ⊢;generalize s.cI.length=n8 at h8 ⊢;go_enter func23,ntmps23;go_upto_region 1 with fail;have K0:=aa (show cN (w.alloc (.cells #[bV s.name,bW A1 n1 q1,bW A2 n2 q2,bW A3 n3 q3,bW A4 n4 q4,bW A5 n5 q5,bW A6 n6 q6,bW A7 n7 q7,bW A8 n8 q8] 31)) w 31 [bV s.name,bW A1 n1 q1,bW A2 n2 q2,bW A3 n3 q3,bW A4 n4 q4,bW A5 n5 q5,bW A6 n6 q6,bW A7 n7 q7,bW A8 n8 q8]from heap_alloc_new w _);have HB:=aa (show Below w w (w.alloc (.cells #[bV s.name,bW A1 n1 q1,bW A2 n2 q2,bW A3 n3 q3,bW A4 n4 q4,bW A5 n5 q5,bW A6 n6 q6,bW A7 n7 q7,bW A8 n8 q8] 31))from cS _);generalize w.alloc (.cells #[bV s.name,bW A1 n1 q1,bW A2 n2 q2,bW A3 n3 q3,bW A4 n4 q4,bW A5 n5 q5,bW A6 n6 q6,bW A7 n7 q7,bW A8 n8 q8] 31)=w1 at K0 HB ⊢;generalize w.heap.size=p at K0 ⊢;have x0:=K0.o.cell;go_wp2;exact HP.o (.returned (bU _)) _ ⟨_,rfl,HB.o⟩
theorem Q8 (a:j6) (s:cK) (w:World) (hI:eo w Any a s) (hl:Lit s):Calls prog 7 #[.agg (dU a s).toArray] w (o8 w):=by
 generalize hP:o8 w=P
 have HP:=aa (show ∀ e w',o8 w e w'→P e w' from fun e w' h=>hP▸h)
 clear hP
 have HI:=aa hI
 have HL:=aa hl
 obtain⟨l1,l2,l3,l4,l5,l6,l7,l8⟩:=KW hl
 clear hI hl
 have Le:=aa (fun W=>Q7 a s W HL.o)
 have HFw:=aa (fun W (h:Below w w W)=>Q6 a s W (HI.o.bZ h) HL.o)
 obtain⟨A1,q1,A2,q2,A3,q3,A4,q4,A5,q5,A6,q6,A7,q7,A8,q8⟩:=a
 simp only[dU]at Le HFw ⊢
 go_enter func7,ntmps7
 go_upto_region 1 with fail
 obtain⟨w1,p,hw,hp,K0,fh,HB,iQ,uu⟩:=Ep w (g_ s A1 A2 A3 A4 A5 A6 A7 A8 q1 q2 q3 q4 q5 q6 q7 q8) 31
 rw[hw,hp]
 clear hw hp
 have x0:=K0.o.cell
 go_upto_region 2 with(go_at_call 23;refine(Le.o _).mono ?_;rintro e w2 ⟨n,rfl,hb2⟩;have dH:=aa (show Below (p+1) w1 w2 from hb2.mono fh.o);clear hb2)
 have x0:=(K0.o.bZ dH.o af).cell
 go_wp2_with fail
 refine(HFw.o w2 (iQ.o _ dH.o)).mono ?_
 rintro e w3 ⟨r,rfl,hb⟩
 replace dH:=aa (dH.o.trans (hb.mono (aaC fh.o dH.o.size)))
 clear hb x0 HFw Le
 have x0:=(K0.o.bZ dH.o af).cell
 cases r
 case false=>
  go_wp2;exact HP.o (.returned (.bool false)) _ ⟨_,rfl,iQ.o _ dH.o⟩
 case true=>
  by_cases hA:30<n∧n≤100;(case pos=>obtain⟨h30,Tl⟩:=hA;go_wp2;exact HP.o (.returned (.bool false)) _ ⟨_,rfl,iQ.o _ dH.o⟩);case neg=>
   by_cases h30:30<n
   case' pos=>have Tl:¬n≤100:=fun h=>hA ⟨h30,h⟩
   all_goals (
    clear hA
    by_cases h2:8<s.inputs.length
    case pos=>
     go_wp2;exact HP.o (.returned (.bool false)) _ ⟨_,rfl,iQ.o _ dH.o⟩
    case neg=>
     by_cases h3:4<s.tables.length;(case pos=>go_wp2;exact HP.o (.returned (.bool false)) _ ⟨_,rfl,iQ.o _ dH.o⟩);by_cases h4:4<s.funcs.length;(case pos=>go_wp2;exact HP.o (.returned (.bool false)) _ ⟨_,rfl,iQ.o _ dH.o⟩);by_cases h5:8<s.cells.length;(case pos=>go_wp2;exact HP.o (.returned (.bool false)) _ ⟨_,rfl,iQ.o _ dH.o⟩);go_wp2;go_loopw [4] (fun v wr=>∃ k:Nat,k≤s.tables.length∧v=bU (k:Int)∧Hid (Below (p+1) w1 wr)) (fun v _=>s.tables.length - (intOf v).toNat);(case atStart=>exact⟨0,aaG _,rfl,dH⟩);clear dH x0;obtain⟨k,hk,rfl,dH⟩:=hrel;have cG:=aa (iQ.o _ dH.o);have x0:=(K0.o.bZ dH.o af).cell;by_cases hlt:k<s.tables.length;(case pos=>obtain⟨b,o,cs,hA,_,hbl,ey,cM⟩:=(HI.o.tables.bZ cG.o).get hlt;subst hA;obtain⟨B,d,hcs,hst⟩:=ey;have HRl:=aa (HL.o.tables _ (aan hlt));subst hcs;generalize s.tables[k].rows.length=rl at cM HRl;have y2:b_ wr b (o+k*3+2) (bW B rl d):=cM 2 _ rfl;clear cM hst;by_cases h8:12<rl;(case pos=>go_wp2;exact HP.o (.returned (.bool false)) _ ⟨_,rfl,iQ.o _ dH.o⟩);go_wp2;go_roundw;exact⟨k+1,by omega,rfl,dH⟩;simp[intOf];omega);case neg=>
      obtain rfl:k=s.tables.length:=by omega
      clear hk hlt
      rename World=>wo
      go_wp2_with fail
      go_loopw [5] (fun v wr=>∃ k:Nat,k≤s.funcs.length∧v=bU (k:Int)∧Hid (Below (p+1) w1 wr)) (fun v _=>s.funcs.length - (intOf v).toNat)
      case atStart=>exact⟨0,aaG _,rfl,dH⟩
      case round=>
       clear dH x0;obtain⟨k,hk,rfl,dH⟩:=hrel;have cG:=aa (iQ.o _ dH.o);have x0:=(K0.o.bZ dH.o af).cell;by_cases hlt:k<s.funcs.length;case pos=>
        obtain⟨b,o,cs,hA,_,hbl,ey,cM⟩:=(HI.o.funcs.bZ cG.o).get hlt
        subst hA
        obtain⟨PA,pd,es,hcs,hsp,hie⟩:=ey
        obtain⟨op,nn,un,nm,Ae,ce,ar,_,hes,_⟩:=hie.parts
        subst hes
        subst hcs
        have HE:=aa (DR s.funcs[k].body _ wr 40 8 hie ((HL.o.funcs _ (aan hlt)).1) af)
        generalize ar.length=la at cM HE
        have y2:b_ wr b (o+k*7+2) (bU op):=cM 2 _ rfl
        have y3:b_ wr b (o+k*7+3) (bU nn):=cM 3 _ rfl
        have y4:b_ wr b (o+k*7+4) (bV un):=cM 4 _ rfl
        have y5:b_ wr b (o+k*7+5) (bV nm):=cM 5 _ rfl
        have y6:b_ wr b (o+k*7+6) (bW Ae la ce):=cM 6 _ rfl
        clear cM hie
        go_wp2_with fail
        refine HE.o.mono ?_
        rintro e w5 ⟨r,rfl,hb⟩
        replace dH:=aa (dH.o.trans (hb.mono (aaC fh.o dH.o.size)))
        clear hb HE y2 y3 y4 y5 y6 cG
        cases r
        case false=>
         go_wp2;exact HP.o (.returned (.bool false)) _ ⟨_,rfl,iQ.o _ dH.o⟩
        case true=>
         go_wp2;go_roundw;exact⟨k+1,by omega,rfl,dH⟩;simp[intOf];omega
       case neg=>
        obtain rfl:k=s.funcs.length:=by omega
        clear hk hlt
        rename World=>wo
        go_wp2_with fail
        go_loopw [6] (fun v wr=>∃ k:Nat,k≤s.cells.length∧v=bU (k:Int)∧Hid (Below (p+1) w1 wr)) (fun v _=>s.cells.length - (intOf v).toNat)
        case atStart=>exact⟨0,aaG _,rfl,dH⟩
        case round=>
         clear dH x0;obtain⟨k,hk,rfl,dH⟩:=hrel;have cG:=aa (iQ.o _ dH.o);have x0:=(K0.o.bZ dH.o af).cell;by_cases hlt:k<s.cells.length;case pos=>
          obtain⟨b,o,cs,hA,_,hbl,ey,cM⟩:=(HI.o.cells.bZ cG.o).get hlt
          subst hA
          obtain⟨es,hcs,hie⟩:=ey
          obtain⟨op,nn,un,nm,Ae,ce,ar,_,hes,_⟩:=hie.parts
          subst hes
          subst hcs
          have HE:=aa (DR s.cells[k].kY _ wr 40 8 hie (HL.o.cells _ (aan hlt)) af)
          generalize ar.length=la at cM HE
          have y2:b_ wr b (o+k*7+2) (bU op):=cM 2 _ rfl
          have y3:b_ wr b (o+k*7+3) (bU nn):=cM 3 _ rfl
          have y4:b_ wr b (o+k*7+4) (bV un):=cM 4 _ rfl
          have y5:b_ wr b (o+k*7+5) (bV nm):=cM 5 _ rfl
          have y6:b_ wr b (o+k*7+6) (bW Ae la ce):=cM 6 _ rfl
          clear cM hie
          go_wp2_with fail
          refine HE.o.mono ?_
          rintro e w5 ⟨r,rfl,hb⟩
          replace dH:=aa (dH.o.trans (hb.mono (aaC fh.o dH.o.size)))
          clear hb HE y2 y3 y4 y5 y6 cG
          cases r
          case false=>
           go_wp2;exact HP.o (.returned (.bool false)) _ ⟨_,rfl,iQ.o _ dH.o⟩
          case true=>
           go_wp2;go_roundw;exact⟨k+1,by omega,rfl,dH⟩;simp[intOf];omega
         case neg=>
          obtain rfl:k=s.cells.length:=by omega
          clear hk hlt
          rename World=>wo
          go_wp2_with fail
          exact HP.o (.returned (.bool true)) _ ⟨_,rfl,cG.o⟩)
end
section
open Go Go.RowKit Bg Go.Proofs Sh Kb Ln
def P1 (a1:Int) (a2:ByteArray) (b1:Int) (b2:ByteArray) (f:cL):Bool:=a1==3&&f.name==a2&&(b1==2||b1==3)&&ez b1 b2 f.body
def P2 (a1:Int) (a2:ByteArray) (b1:Int) (b2:ByteArray) (f:fD):Bool:=a1==4&&f.name==a2&&ez b1 b2 f.kY
theorem NF (a:j6) (s:cK) (a1:Int) (a2:ByteArray) (b1:Int) (b2:ByteArray) (w:World) (hI:eo w Any a s) (hf:s.funcs.length≤1000000) (hc:s.cells.length≤1000000) (hL:(∀ f∈s.funcs,cE f.body≤1000000)∧∀ c∈s.cells,cE c.kY≤1000000):Calls prog 17 #[.agg (dU a s).toArray,.agg #[bU a1,bV a2],.agg #[bU b1,bV b2]] w (iY (jk s (a1,a2) (b1,b2)) w):=by
 have HD:=aa (show jk s (a1,a2) (b1,b2)=(s.funcs.any (P1 a1 a2 b1 b2)||s.cells.any (P2 a1 a2 b1 b2))from rfl);generalize jk s (a1,a2) (b1,b2)=dd at HD ⊢;generalize hP:iY dd w=P;have HP:=aa (show ∀ e w',iY dd w e w'→P e w' from fun e w' h=>hP▸h);clear hP;have HI:=aa hI;have HL:=aa hL;clear hI hL;obtain⟨A1,q1,A2,q2,A3,q3,A4,q4,A5,q5,A6,q6,A7,q7,A8,q8⟩:=a;simp only[dU];go_enter func17,ntmps17;go_upto_region 1 with fail;obtain⟨w1,hw1,K0,K1,K2,HB⟩:=nP w (g_ s A1 A2 A3 A4 A5 A6 A7 A8 q1 q2 q3 q4 q5 q6 q7 q8) [.int .i64 a1,bV a2] [.int .i64 b1,bV b2] 31 51 51;rw[hw1];clear hw1;obtain⟨p,hp⟩:∃ p,p=w.heap.size:=⟨_,rfl⟩;have uu:=aa hp;rw[← hp]at K0 K1 K2 ⊢;clear hp;have fh:=aa (show p+3≤w1.heap.size by have:=K2.o.lt;omega);have iQ:=aa (show ∀ W,Below (p+3) w1 W→Below w w W from fun W h=>HB.o.trans (h.mono aW));have dH:=aa ((aaf w1 w1).mono fh.o);have x0:=K0.o.cell;go_wp2;go_loopw [7] (fun v wr=>∃ k:Nat,k≤s.funcs.length∧v= .int .i64 (k:Int)∧Hid ((s.funcs.take k).any (P1 a1 a2 b1 b2)=false)∧Hid (Below (p+3) w1 wr)) (fun v _=>s.funcs.length - (intOf v).toNat);(case atStart=>exact⟨0,aaG _,rfl,aa rfl,dH⟩);clear dH x0;obtain⟨k,hk,rfl,HF,dH⟩:=hrel;have cG:=aa (iQ.o _ dH.o);have x0:=(K0.o.bZ dH.o af).cell;have x1:=(K1.o.bZ dH.o af).cell;have x2:=(K2.o.bZ dH.o af).cell;by_cases hlt:k<s.funcs.length;case pos=>
  obtain⟨bl,o,cs,hA,_,hbl,ey,cM⟩:=(HI.o.funcs.bZ cG.o).get hlt;subst hA;obtain⟨PA,pd,es,G5,hsp,hie⟩:=ey;obtain⟨eR,yn,eT,eU,B9,c9,yr,oh,hes,_⟩:=cH.parts hie;subst hes;subst G5;clear oh hsp;generalize yr.length=ny at hie cM;have NC:=aa (fun W (h:Below wr wr W)=>zy b1 b2 1000000 aac s.funcs[k].body (HL.o.1 _ (aan hlt)) W _ (di.keep hie (cB.cA h)));have HT:=aa (show(s.funcs.take (k+1)).any (P1 a1 a2 b1 b2)=P1 a1 a2 b1 b2 s.funcs[k] by rw[aaz hlt,List.any_append,HF.o];simp);have BB:=aa (show P1 a1 a2 b1 b2 s.funcs[k]=true→s.funcs.any (P1 a1 a2 b1 b2)=true from fun h=>List.any_eq_true.2 ⟨_,aan hlt,h⟩);clear hie;have hpe:P1 a1 a2 b1 b2 s.funcs[k]=(a1==3&&s.funcs[k].name==a2&&(b1==2||b1==3)&&ez b1 b2 s.funcs[k].body):=rfl;rw[hpe]at HT BB;clear hpe;generalize ez b1 b2 s.funcs[k].body=r at NC HT BB;generalize s.funcs[k].name=fn at HT BB cM;generalize s.funcs[k].params.length=np at cM;have g0:b_ wr bl (o+k*7) (bV fn):=cM 0 _ rfl;have g1:b_ wr bl (o+k*7+1) (bW PA np pd):=cM 1 _ rfl;have g2:b_ wr bl (o+k*7+2) (bU eR):=cM 2 _ rfl;have g3:b_ wr bl (o+k*7+3) (bU yn):=cM 3 _ rfl;have g4:b_ wr bl (o+k*7+4) (bV eT):=cM 4 _ rfl;have g5:b_ wr bl (o+k*7+5) (bV eU):=cM 5 _ rfl;have g6:b_ wr bl (o+k*7+6) (bW B9 ny c9):=cM 6 _ rfl;clear cM;have jy:=aa (show Below wr wr wr.drew from⟨rfl,rfl,rfl,aaB _,fun _ _=>rfl⟩);have xM:=aa (show ∀ W,Below wr wr W→∀ b' o',b'<wr.heap.size→W.cell? (bY b' o')=wr.cell? (bY b' o')from fun W h b' o' hb=>h.cell (p:=bY b' o') hb);have v0:p<wr.heap.size:=aaD K0.o.lt dH.o.size;have v1:p+1<wr.heap.size:=aaD K1.o.lt dH.o.size;have v2:p+1+1<wr.heap.size:=aaD K2.o.lt dH.o.size;by_cases h1:a1=3;(case neg=>have z1:(a1==3)=false:=aF;go_wp2_with fail;go_quiet (fail);have dF:=aa (below_drewN dH.o nq);generalize wr.drewN nq=w5 at dF ⊢;go_wp2;go_roundw;exact⟨k+1,by omega,rfl,aa (by rw[HT.o];rw[z1];rfl),dF⟩;simp[intOf];omega);have z1:(a1==3)=true:=aF;clear h1;by_cases h2:fn=a2;case neg=>
   have z2:(fn.toList==a2.toList)=false:=by
    rw[Bool.eq_false_iff];intro h;have:=eq_of_beq h;rw[Lib.toList_data,Lib.toList_data]at this;exact h2 (ByteArray.ext (Array.toList_inj.1 this))
   have z3:(fn==a2)=false:=(by rw[beq_eq_false_iff_ne];exact h2);go_wp2_with fail;go_quiet (fail);have dF:=aa (below_drewN dH.o nq);generalize wr.drewN nq=w5 at dF ⊢;go_wp2;go_roundw;exact⟨k+1,by omega,rfl,aa (by rw[HT.o];rw[z3,Bool.and_false];rfl),dF⟩;simp[intOf];omega
  subst h2;have z2:(fn.toList==fn.toList)=true:=ai;by_cases h3:b1=2;(case pos=>have z3:(b1==2)=true:=(by simpa using h3);rw[z1,z3,beq_self_eq_true]at HT BB;clear h3;go_upto_region 4 with fail;refine cV (S:=fun w'=>∀ b' o',b'<wr.heap.size→w'.cell? (bY b' o')=wr.cell? (bY b' o')) [0,1,2,3,4,6,10,5,11,7,8,9,12,13,14,15,16,17,18,19,20,21,22,23,24,25,27,31,33,26,32,34,28,29,30,36] [(0,false),(1,false),(2,false),(3,false),(4,false),(6,false),(10,false),(5,false),(11,false),(7,false),(8,false),(9,false),(12,false),(13,false),(14,false),(15,false),(16,false),(17,false),(18,false),(19,false),(20,false),(21,false),(22,false),(23,false),(24,false),(25,false),(27,false),(31,false),(33,false),(26,false),(32,false),(34,false),(28,false),(29,false),(30,false),(35,true),(36,false)] ah ah aq rfl ah (fun _ _ _=>rfl) ?_;(iterate 19 refine hwr ?_);(iterate 3 refine Zp ?_);(iterate 13 refine hwr ?_);refine hwt fun K hK=>?_;go_simp;refine(NC.o _ jy.o).mono ?_;rintro e w5 ⟨rfl,ew⟩;have KZ:=aa (jy.o.trans (ew.mono jy.o.size));have dF:=aa (show Below (p+3) w1 w5 from dH.o.trans (KZ.o.mono (aaC fh.o dH.o.size)));clear ew;refine hK.o _ _ (xM.o _ KZ.o) ?_;clear hK K;refine hwr ?_;refine eD ?_;(try go_frame);cases r;(case false=>go_wp2;go_roundw;exact⟨k+1,by omega,rfl,aa (by rw[HT.o];simp),dF⟩;simp[intOf];omega);go_wp2;exact HP.o (.returned (.bool true)) _ ⟨by rw[HD.o,BB.o rfl];rfl,iQ.o _ dF.o⟩);have z3:(b1==2)=false:=(by simpa using h3);clear h3;by_cases h4:b1=3;(case pos=>have z4:(b1==3)=true:=(by simpa using h4);rw[z1,z3,z4,beq_self_eq_true]at HT BB;clear h4;go_upto_region 4 with fail;refine cV (S:=fun w'=>∀ b' o',b'<wr.heap.size→w'.cell? (bY b' o')=wr.cell? (bY b' o')) [0,1,2,3,4,6,10,5,11,7,8,9,12,13,14,15,16,17,18,19,20,21,22,23,24,25,27,31,33,26,32,34,28,29,30,36] [(0,false),(1,false),(2,false),(3,false),(4,false),(6,false),(10,false),(5,false),(11,false),(7,false),(8,false),(9,false),(12,false),(13,false),(14,false),(15,false),(16,false),(17,false),(18,false),(19,false),(20,false),(21,false),(22,false),(23,false),(24,false),(25,false),(27,false),(31,false),(33,false),(26,false),(32,false),(34,false),(28,false),(29,false),(30,false),(35,true),(36,false)] ah ah aq rfl ah (fun _ _ _=>rfl) ?_;(iterate 35 refine hwr ?_);refine hwt fun K hK=>?_;go_simp;refine(NC.o _ jy.o).mono ?_;rintro e w5 ⟨rfl,ew⟩;have KZ:=aa (jy.o.trans (ew.mono jy.o.size));have dF:=aa (show Below (p+3) w1 w5 from dH.o.trans (KZ.o.mono (aaC fh.o dH.o.size)));clear ew;refine hK.o _ _ (xM.o _ KZ.o) ?_;clear hK K;refine hwr ?_;refine eD ?_;(try go_frame);cases r;(case false=>go_wp2;go_roundw;exact⟨k+1,by omega,rfl,aa (by rw[HT.o];simp),dF⟩;simp[intOf];omega);go_wp2;exact HP.o (.returned (.bool true)) _ ⟨by rw[HD.o,BB.o rfl];rfl,iQ.o _ dF.o⟩);have z4:(b1==3)=false:=(by simpa using h4);clear h4;go_wp2_with fail;go_quiet (fail);have dF:=aa (below_drewN dH.o nq);generalize wr.drewN nq=w5 at dF ⊢;go_wp2;go_roundw;exact⟨k+1,by omega,rfl,aa (by rw[HT.o];rw[z3,z4];simp),dF⟩;simp[intOf];omega
 case neg=>
  obtain rfl:k=s.funcs.length:=by omega
  have HFf:=aa (show s.funcs.any (P1 a1 a2 b1 b2)=false by have:=HF.o;rwa [List.take_length]at this)
  clear hk hlt HF x1 x2
  have Kl:=dH
  rename World=>wo
  go_wp2_with fail
  go_loopw [8] (fun v wr=>∃ k:Nat,k≤s.cells.length∧v=bU (k:Int)∧Hid ((s.cells.take k).any (P2 a1 a2 b1 b2)=false)∧Hid (Below (p+3) w1 wr)) (fun v _=>s.cells.length - (intOf v).toNat)
  case atStart=>exact⟨0,aaG _,rfl,aa rfl,Kl⟩
  case round=>
   clear dH Kl cG x0;obtain⟨k,hk,rfl,HF,dH⟩:=hrel;have cG:=aa (iQ.o _ dH.o);have x0:=(K0.o.bZ dH.o af).cell;have x1:=(K1.o.bZ dH.o af).cell;have x2:=(K2.o.bZ dH.o af).cell;by_cases hlt:k<s.cells.length;case pos=>
    obtain⟨bl,o,cs,hA,_,hbl,ey,cM⟩:=(HI.o.cells.bZ cG.o).get hlt;subst hA;obtain⟨es,G5,hie⟩:=ey;obtain⟨eR,yn,eT,eU,B9,c9,yr,oh,hes,_⟩:=cH.parts hie;subst hes;subst G5;clear oh;generalize yr.length=ny at hie cM;have NC:=aa (fun W (h:Below wr wr W)=>zy b1 b2 1000000 aac s.cells[k].kY (HL.o.2 _ (aan hlt)) W _ (di.keep hie (cB.cA h)));have HT:=aa (show(s.cells.take (k+1)).any (P2 a1 a2 b1 b2)=P2 a1 a2 b1 b2 s.cells[k] by rw[aaz hlt,List.any_append,HF.o];simp);have BB:=aa (show P2 a1 a2 b1 b2 s.cells[k]=true→s.cells.any (P2 a1 a2 b1 b2)=true from fun h=>List.any_eq_true.2 ⟨_,aan hlt,h⟩);clear hie;have hpe:P2 a1 a2 b1 b2 s.cells[k]=(a1==4&&s.cells[k].name==a2&&ez b1 b2 s.cells[k].kY):=rfl;rw[hpe]at HT BB;clear hpe;generalize ez b1 b2 s.cells[k].kY=r at NC HT BB;generalize s.cells[k].name=fn at HT BB cM;generalize s.cells[k].unit=cu at cM;have g0:b_ wr bl (o+k*7) (bV fn):=cM 0 _ rfl;have g1:b_ wr bl (o+k*7+1) (bV cu):=cM 1 _ rfl;have g2:b_ wr bl (o+k*7+2) (bU eR):=cM 2 _ rfl;have g3:b_ wr bl (o+k*7+3) (bU yn):=cM 3 _ rfl;have g4:b_ wr bl (o+k*7+4) (bV eT):=cM 4 _ rfl;have g5:b_ wr bl (o+k*7+5) (bV eU):=cM 5 _ rfl;have g6:b_ wr bl (o+k*7+6) (bW B9 ny c9):=cM 6 _ rfl;clear cM;have jy:=aa (show Below wr wr wr.drew from⟨rfl,rfl,rfl,aaB _,fun _ _=>rfl⟩);have xM:=aa (show ∀ W,Below wr wr W→∀ b' o',b'<wr.heap.size→W.cell? (bY b' o')=wr.cell? (bY b' o')from fun W h b' o' hb=>h.cell (p:=bY b' o') hb);have v0:p<wr.heap.size:=aaD K0.o.lt dH.o.size;have v1:p+1<wr.heap.size:=aaD K1.o.lt dH.o.size;have v2:p+1+1<wr.heap.size:=aaD K2.o.lt dH.o.size;by_cases h1:a1=4;(case neg=>have z1:(a1==4)=false:=aF;go_wp2_with fail;go_quiet (fail);have dF:=aa (below_drewN dH.o nq);generalize wr.drewN nq=w5 at dF ⊢;go_wp2;go_roundw;exact⟨k+1,by omega,rfl,aa (by rw[HT.o];rw[z1];rfl),dF⟩;simp[intOf];omega);have z1:(a1==4)=true:=aF;clear h1;by_cases h2:fn=a2;case neg=>
     have z2:(fn.toList==a2.toList)=false:=by
      rw[Bool.eq_false_iff];intro h;have:=eq_of_beq h;rw[Lib.toList_data,Lib.toList_data]at this;exact h2 (ByteArray.ext (Array.toList_inj.1 this))
     have z3:(fn==a2)=false:=(by rw[beq_eq_false_iff_ne];exact h2);go_wp2_with fail;go_quiet (fail);have dF:=aa (below_drewN dH.o nq);generalize wr.drewN nq=w5 at dF ⊢;go_wp2;go_roundw;exact⟨k+1,by omega,rfl,aa (by rw[HT.o];rw[z3,Bool.and_false];rfl),dF⟩;simp[intOf];omega
    subst h2;have z2:(fn.toList==fn.toList)=true:=ai;rw[z1,beq_self_eq_true]at HT BB;go_upto_region 9 with fail;refine cV (S:=fun w'=>∀ b' o',b'<wr.heap.size→w'.cell? (bY b' o')=wr.cell? (bY b' o')) [0,1,2,3,4,6,10,5,11,7,8,9,12,13,14,15,17,21,23,16,22,24,18,19,20,26] [(0,false),(1,false),(2,false),(3,false),(4,false),(6,false),(10,false),(5,false),(11,false),(7,false),(8,false),(9,false),(12,false),(13,false),(14,false),(15,false),(17,false),(21,false),(23,false),(16,false),(22,false),(24,false),(18,false),(19,false),(20,false),(25,true),(26,false)] ah ah aq rfl ah (fun _ _ _=>rfl) ?_;(iterate 25 refine hwr ?_);refine hwt fun K hK=>?_;go_simp;refine(NC.o _ jy.o).mono ?_;rintro e w5 ⟨rfl,ew⟩;have KZ:=aa (jy.o.trans (ew.mono jy.o.size));have dF:=aa (show Below (p+3) w1 w5 from dH.o.trans (KZ.o.mono (aaC fh.o dH.o.size)));clear ew;refine hK.o _ _ (xM.o _ KZ.o) ?_;clear hK K;refine hwr ?_;refine eD ?_;(try go_frame);cases r;(case false=>go_wp2;go_roundw;exact⟨k+1,by omega,rfl,aa (by rw[HT.o];simp),dF⟩;simp[intOf];omega);go_wp2;exact HP.o (.returned (.bool true)) _ ⟨by rw[HD.o,HFf.o,BB.o rfl];rfl,iQ.o _ dF.o⟩
   (obtain rfl:k=s.cells.length:=by omega);have HFc:=aa (show s.cells.any (P2 a1 a2 b1 b2)=false by have:=HF.o;rwa [List.take_length]at this);go_wp2;exact HP.o (.returned (.bool false)) _ ⟨by rw[HD.o,HFf.o,HFc.o];rfl,cG.o⟩
end
open Go Go.RowKit Bg Go.Proofs Sh Kb Ck Ln
theorem Vs {s:cK} (hz:gj s):∀ x∈kT s,gX x:=fun x hx=>by
 unfold kT at hx;simp only[List.mem_append,List.mem_map]at hx;rcases hx with((⟨y,hy,rfl⟩|⟨y,hy,rfl⟩)|⟨y,hy,rfl⟩)|⟨y,hy,rfl⟩
 (·exact⟨(by decide:(Lit.int .i64 1).wf=true),(hz.inputs y hy).name⟩)
 (·exact⟨(by decide:(Lit.int .i64 2).wf=true),(hz.tables y hy).name⟩)
 (·exact⟨(by decide:(Lit.int .i64 3).wf=true),(hz.funcs y hy).name⟩);exact⟨(by decide:(Lit.int .i64 4).wf=true),(hz.cells y hy).name⟩
theorem Q9 (s:cK):(kT s).length=s.inputs.length+s.tables.length+s.funcs.length+s.cells.length:=by
 unfold kT;simp;(try omega)
theorem Q_ (x1 y1:Int) (x2 y2:ByteArray) (W:World):(binOp .eql 51 (.agg #[bU x1,bV x2]) (.agg #[bU y1,bV y2])).run prog W= .ok (.bool (decide ((x1,x2)=(y1,y2)))) W:=by
 by_cases h1:x1=y1
 ·by_cases h2:x2=y2
  (·subst h1 h2;rw[decide_eq_true rfl];have z2:(x2.toList==x2.toList)=true:=ai;go_simp);subst h1;rw[decide_eq_false (fun e=>h2 bz)];have z2:(x2.toList==y2.toList)=false:=by
   rw[Bool.eq_false_iff];intro h;have:=eq_of_beq h;rw[Lib.toList_data,Lib.toList_data]at this;exact h2 (ByteArray.ext (Array.toList_inj.1 this))
  go_simp
 rw[decide_eq_false (fun e=>h1 bz)];have z1:(x1==y1)=false:=aF;go_simp
theorem law_parts (a:j6) (s:cK) (n m:Int) (w:World) (hI:eo w Any a s) (hl:Lit s) (bn:-9223372036854775808≤n∧n≤9223372036854775807) (bm:0≤m∧m≤255):Calls prog 4 #[.agg (dU a s).toArray,bU n,.int .u8 m] w (iY true w):=by
 generalize hP:iY true w=P
 have HP:=aa (show ∀ e w',iY true w e w'→P e w' from fun e w' h=>hP▸h)
 clear hP
 have HI:=aa hI
 have HL:=aa hl
 have HFw:=aa (fun W (h:Below w w W)=>Q8 a s W (HI.o.bZ h) HL.o)
 have HOn:=aa (fun n W (h:Below w w W)=>BL a s n W (HI.o.bZ h) HL.o.sm)
 have Ma:=aa (fun(x:eN) (hx:x∈kT s) W (h:Below w w W)=>xL a s x.1 x.2 (Vs HL.o.sm x hx) W (HI.o.bZ h) HL.o.sm)
 have xQ:=aa (fun W (h:Below w w W)=>vD a s W (HI.o.bZ h) HL.o.sm)
 have Le:=aa (fun hl W (h:Below w w W)=>Qm a s W (HI.o.bZ h) hl)
 have HDi:=aa (fun a1 a2 b1 b2 hf hc W (h:Below w w W)=>NF a s a1 a2 b1 b2 W (HI.o.bZ h) hf hc ⟨fun f hf=>(HL.o.funcs f hf).1,HL.o.cells⟩)
 clear hI hl
 obtain⟨A1,q1,A2,q2,A3,q3,A4,q4,A5,q5,A6,q6,A7,q7,A8,q8⟩:=a
 simp only[dU]at HFw HOn Ma xQ Le HDi ⊢
 go_enter func4,ntmps4
 go_upto_region 1 with fail
 obtain⟨w1,p,hw,hp,K0,fh,HB,iQ,uu⟩:=Ep w (g_ s A1 A2 A3 A4 A5 A6 A7 A8 q1 q2 q3 q4 q5 q6 q7 q8) 31
 rw[hw,hp]
 clear hw hp
 have x0:=K0.o.cell
 go_upto_region 2 with(go_at_call 6;refine(Vo w1).mono ?_;rintro e w2 ⟨rfl,hb⟩;have dH:=aa (show Below (p+1) w1 w2 from hb.mono fh.o);clear hb)
 have x0:=(K0.o.bZ dH.o af).cell
 go_wp2_with fail
 refine(HFw.o w2 (iQ.o _ dH.o)).mono ?_
 rintro e w3 ⟨r,rfl,hb⟩
 replace dH:=aa (dH.o.trans (hb.mono (aaC fh.o dH.o.size)));clear hb
 clear x0 HFw
 have x0:=(K0.o.bZ dH.o af).cell
 cases r
 case false=>
  go_wp2;exact HP.o (.returned (.bool true)) _ ⟨rfl,iQ.o _ dH.o⟩
 case true=>
  go_upto_region 5 with(go_at_call 9;refine(HOn.o n w3 (iQ.o _ dH.o)).mono ?_;rintro e w4 ⟨LA,lc,l,rfl,sD,hb,hl⟩;have HSl0:=aa sD;replace dH:=aa (dH.o.trans (hb.mono (aaC fh.o dH.o.size)));clear hb;clear sD);clear x0;have x0:=(K0.o.bZ dH.o af).cell;have Ra:=aa (xQ.o w4 (iQ.o _ dH.o));rcases hl with⟨Vt,hl0⟩|⟨C6,i,hi,hni,Sk⟩;case inl=>
   subst hl0;generalize hcs:ia s=ck at Ra Vt;clear hcs;go_upto_region 6 with(go_at_call 14;refine Ra.o.mono ?_;rintro e w5 ⟨nm,rfl,hb⟩;replace dH:=aa (dH.o.trans (hb.mono (aaC fh.o dH.o.size)));clear hb);clear x0 Ra;have x0:=(K0.o.bZ dH.o af).cell;by_cases hk0:ck=0;(case neg=>have zk:(ck != 0)=true:=(by simpa using hk0);clear Vt hk0;go_wp2;exact HP.o (.returned (.bool true)) _ ⟨rfl,iQ.o _ dH.o⟩);subst hk0;by_cases hn0:n<0;(case pos=>have z0:decide (n<0)=true:=(by simpa using hn0);clear Vt;go_wp2;exact HP.o (.returned (.bool true)) _ ⟨rfl,iQ.o _ dH.o⟩);have z0:decide (n<0)=false:=(by simpa using hn0);have z1:decide (n≥(s.cells.length:Int))=true:=decide_eq_true (by
    rcases Int.lt_or_le n s.cells.length with h|h
    (·exact absurd ⟨rfl,by omega,h⟩ Vt);exact h)
   clear Vt hn0;go_wp2;exact HP.o (.returned (.bool true)) _ ⟨rfl,iQ.o _ dH.o⟩
  case inr=>
   subst hni
   rw[C6]at Ra
   obtain⟨hr,_,_⟩:=xz C6
   have hlen:=nD hr
   have HA:=aa (Am hr)
   have YZ:=aa Sk
   have vL:=aa (O1 hr HL.o.sm (aan hi) Sk)
   have HLc:=aa (fun c (hc:c∈s.cells) l (h:Hf s c.name l)=>O1 hr HL.o.sm hc h)
   have HIl:=aa (Q9 s)
   have HOwn:=aa (Qr (aan hi) Sk)
   have HCs:=aa C6
   have HCd:=aa (fun c (hc:c∈s.cells)=>o7 hr hc)
   have z0:decide ((i:Int)≥(s.cells.length:Int))=false:=decide_eq_false af
   clear hr C6 Sk xQ
   go_upto_region 6 with(go_at_call 14;refine Ra.o.mono ?_;rintro e w5 ⟨nm,rfl,hb⟩;have Q3:=aa (HSl0.o.bZ hb);replace dH:=aa (dH.o.trans (hb.mono (aaC fh.o dH.o.size)));clear hb)
   clear x0 Ra HSl0
   have x0:=(K0.o.bZ dH.o af).cell
   have X7:=aa (Le.o ⟨by omega,by omega,by omega,by omega⟩ w5 (iQ.o _ dH.o))
   change Hid (Calls _ _ _ _ (xD (kT s) w5))at X7
   have HIs:=aa (fun x (hx:x∈kT s)=>Qs HA.o (aan hi) YZ.o hx)
   have HOfx:=aa (fun x (hx:x∈kT s) W h=>KR HCs.o (Ma.o x hx W h) rfl)
   have HPo:=aa (fun x=>UF hi YZ.o x)
   obtain⟨all,hall⟩:∃ l,l=kT s:=⟨_,rfl⟩
   have UW:=aa hall
   rw[← hall]at X7 HIs HOfx HIl
   have hal:all.length≤400:=by have:=HIl.o;omega
   have hal0:0<all.length:=by have:=HIl.o;omega
   have F7:=vL.o
   clear hall Le Ma
   go_upto_region 9 with(go_at_call 15;refine X7.o.mono ?_;rintro e w6 ⟨AA,ac,rfl,Yt,hb⟩;have HSa0:=aa Yt.all;have HSl6:=aa (Q3.o.bZ hb);replace dH:=aa (dH.o.trans (hb.mono (aaC fh.o dH.o.size)));clear hb;clear Yt)
   clear x0 X7 Q3 z0
   have x0:=(K0.o.bZ dH.o af).cell
   obtain⟨bc,oc,cs,hA,_,hbc,ey,cM⟩:=(HI.o.cells.bZ (iQ.o _ dH.o)).get hi
   subst hA
   have c0:b_ w6 bc (oc+i*7) (bV s.cells[i].name):=by obtain⟨es,G5,hie⟩:=ey;exact cM 0 _ (by rw[G5];rfl)
   clear ey cM hbc
   generalize hon:s.cells[i].name=own at c0 HOwn HIs
   go_upto_region 10 with fail
   obtain⟨w7,hw7⟩:∃ W,W=w6.alloc (.cells #[.int .i64 4,bV own] 51):=⟨_,rfl⟩
   have K1:=aa (show cN w7 w6 51 [bU 4,bV own] by rw[hw7];exact heap_alloc_new w6 _)
   have hb:Below w6 w6 w7:=by rw[hw7];exact cS _
   rw[← hw7]
   have HSa:=aa (HSa0.o.bZ hb)
   have Q3:=aa (HSl6.o.bZ hb)
   replace dH:=aa (dH.o.trans (hb.mono (aaC fh.o dH.o.size)));clear hb
   obtain⟨po,hpo⟩:∃ g,g=w6.heap.size:=⟨_,rfl⟩
   rw[← hpo]at K1 ⊢
   clear hw7 hpo c0 x0 HSa0 HSl6
   have HL7:=aa (show p+1≤w7.heap.size∧po<w7.heap.size from⟨aaC fh.o dH.o.size,K1.o.lt⟩)
   have HZ7:=aa (show ∀ W,Below w7 w7 W→Below w w W from fun W h=>iQ.o _ (dH.o.trans (h.mono HL7.o.1)))
   have K7:=aa (K0.o.bZ dH.o af)
   clear dH K0 iQ
   have x0:=K7.o.cell
   have x1:=K1.o.cell
   have za:((all.length:Int)==0)=false:=by rw[beq_eq_false_iff_ne];omega
   have HOw2:=aa (show(l.any fun z=>z.1==4&&z.2==own)=true from HOwn.o)
   go_upto_region 12 with(go_at_call 16;refine(BC LA lc l 4 own w7 Q3.o af).mono ?_;rintro e w8 ⟨rfl,hb⟩;rw[HOw2.o];have dH:=aa hb;clear hb)
   clear x0 x1 HOw2 HOwn
   go_wp2_with fail
   go_loopw [13] (fun v wr=>∃ k:Nat,k≤all.length∧v=bU (k:Int)∧Hid (Below w7 w7 wr)) (fun v _=>all.length - (intOf v).toNat)
   case atStart=>exact⟨0,aaG _,rfl,dH⟩
   case round=>
    clear dH
    obtain⟨k,hk,rfl,dH⟩:=hrel
    rename World=>wo
    have x0:=(K7.o.bZ dH.o K7.o.lt).cell
    have x1:=(K1.o.bZ dH.o K1.o.lt).cell
    by_cases hlt:k<all.length
    case pos=>
     obtain⟨ba,oa,cs,hA,_,hba,hcs,cM⟩:=(HSa.o.bZ dH.o).get hlt;subst hA;have hcs:cs=[.int .i64 all[k].1,bV all[k].2]:=hcs;subst hcs;(have a0:b_ wo ba (oa+k*2) (.int .i64 all[k].1):=by have:=cM 0 _ rfl;rwa [show oa+k*dI.k+0=oa+k*2 by rfl]at this);have a1:b_ wo ba (oa+k*2+1) (bV all[k].2):=cM 1 _ rfl;have HPa:=aa (HIs.o _ (aan hlt));clear cM hba;generalize all[k]=x at a0 a1 HPa;obtain⟨xc,xn⟩:=x;dsimp only at a0 a1 HPa;obtain⟨hx,hhx⟩:∃ b,b=hasB l xc xn:=⟨_,rfl⟩;have HHx:=aa (show(l.any fun z=>z.1==xc&&z.2==xn)=hx from hhx.symm);rw[← hhx]at HPa;have heq:=Q_ xc 4 xn own;obtain⟨e0,he0⟩:∃ b,b=decide ((xc,xn)=((4,own):eN)):=⟨_,rfl⟩;rw[← he0]at heq HPa;clear hhx he0;go_upto_region 16 with fail;obtain⟨wa,X8⟩:∃ W,W=wo.alloc (.cells #[.int .i64 xc,bV xn] 51):=⟨_,rfl⟩;have KX:=aa (show cN wa wo 51 [.int .i64 xc,bV xn] by rw[X8];exact heap_alloc_new wo _);have Ih:=aa (show Below w7 w7 wa by rw[X8];exact dH.o.alloc dH.o.size _);rw[← X8];obtain⟨px,hpx⟩:∃ g,g=wo.heap.size:=⟨_,rfl⟩;have HPx:=aa (show w7.heap.size≤px∧px<wa.heap.size by rw[hpx];exact⟨dH.o.size,KX.o.lt⟩);rw[← hpx]at KX ⊢;clear X8 hpx a0 a1 x0 x1;have xx:=KX.o.cell;go_upto_region 17 with(go_at_call 16;refine(BC LA lc l xc xn wa (Q3.o.bZ Ih.o) af).mono ?_;rintro e wb ⟨rfl,hb⟩;rw[HHx.o];have M9:=aa (Ih.o.trans (hb.mono Ih.o.size));have KXb:=aa (KX.o.bZ hb KX.o.lt);clear hb);clear xx KX Ih;have x0:=(K7.o.bZ M9.o K7.o.lt).cell;have x1:=(K1.o.bZ M9.o K1.o.lt).cell;have xx:=KXb.o.cell;go_wp2_with fail;clear x0 x1 xx heq;go_loopw [16,17] (fun v16 v17 wr=>∃ j:Nat,j≤l.length∧v17= .int .i64 (j:Int)∧v16= .bool (e0||(l.take j).any fun y=>jk s y (xc,xn))∧Hid (Below w7 w7 wr)∧Hid (cN wr px 51 [.int .i64 xc,bV xn])) (fun _ v17 _=>l.length - (intOf v17).toNat);(case atStart=>exact⟨0,aaG _,rfl,by simp,M9,KXb⟩);clear M9 KXb;obtain⟨j,hj,rfl,rfl,DW,KXq⟩:=hrel;by_cases hlj:j<l.length;(case pos=>have nZ:=aa (show(e0||(l.take (j+1)).any fun y=>jk s y (xc,xn))=((e0||(l.take j).any fun y=>jk s y (xc,xn))||jk s l[j] (xc,xn)) by rw[aaz hlj,List.any_append,Bool.or_assoc];simp);generalize (e0||(l.take j).any fun y=>jk s y (xc,xn))=d at nZ ⊢;cases d;(case true=>go_wp2_with fail;go_quiet (fail);have dG:=aa (below_drewN DW.o nq);have KX2:=aa (show cN (wr.drewN nq) px 51 [.int .i64 xc,bV xn]from KXq.o);generalize wr.drewN nq=w9 at dG KX2 ⊢;go_wp2;go_roundw;exact⟨j+1,by omega,rfl,by rw[nZ.o];rfl,dG,KX2⟩;simp[intOf];omega);obtain⟨bl,ol,cs,hA,_,hbl,hcs,cM⟩:=(Q3.o.bZ DW.o).get hlj;subst hA;have hcs:cs=[.int .i64 l[j].1,bV l[j].2]:=hcs;subst hcs;(have a0:b_ wr bl (ol+j*2) (.int .i64 l[j].1):=by have:=cM 0 _ rfl;rwa [show ol+j*dI.k+0=ol+j*2 by rfl]at this);have a1:b_ wr bl (ol+j*2+1) (bV l[j].2):=cM 1 _ rfl;clear cM;have HDj:=aa (fun W h=>HDi.o l[j].1 l[j].2 xc xn af af W h);have hdp:jk s (l[j].1,l[j].2) (xc,xn)=jk s l[j] (xc,xn):=rfl;rw[hdp]at HDj;clear hdp;generalize jk s l[j] (xc,xn)=r at nZ HDj;generalize l[j]=y at a0 a1 HDj;obtain⟨yc,yn⟩:=y;dsimp only at a0 a1 HDj;have x0:=(K7.o.bZ DW.o K7.o.lt).cell;have xx:=KXq.o.cell;have jy:=aa (show Below wr wr wr.drew from⟨rfl,rfl,rfl,aaB _,fun _ _=>rfl⟩);have xM:=aa (show ∀ W,Below wr wr W→∀ b' o',b'<wr.heap.size→W.cell? (bY b' o')=wr.cell? (bY b' o')from fun W h b' o' hb=>h.cell (p:=bY b' o') hb);have v0:p<wr.heap.size:=aaD K7.o.lt DW.o.size;have v1:px<wr.heap.size:=KXq.o.lt;go_upto_region 21 with fail;refine cV (S:=fun w'=>∀ b' o',b'<wr.heap.size→w'.cell? (bY b' o')=wr.cell? (bY b' o')) [0,1,2,3,4,7,5,6,9,10] [(0,false),(1,false),(2,false),(3,false),(4,false),(7,false),(5,false),(6,false),(8,true),(9,false),(10,false)] ah ah aq rfl ah (fun _ _ _=>rfl) ?_;(iterate 8 refine hwr ?_);refine hwt fun K hK=>?_;go_simp;refine(HDj.o _ (HZ7.o _ (DW.o.trans (jy.o.mono DW.o.size)))).mono ?_;rintro e w9 ⟨rfl,hb⟩;have je:=aa (jy.o.trans (hb.mono jy.o.size));clear hb;refine hK.o _ _ (xM.o _ je.o) ?_;clear hK K;(iterate 2 refine hwr ?_);refine eD ?_;(try go_frame);have KX2:=aa (KXq.o.bZ je.o KXq.o.lt);have dG:=aa (DW.o.trans (je.o.mono DW.o.size));clear je xM jy x0 xx a0 a1 v0 v1 KXq DW;go_wp2;go_roundw;exact⟨j+1,by omega,rfl,by rw[nZ.o];rfl,dG,KX2⟩;simp[intOf];omega);have hv:(e0||(l.take j).any fun y=>jk s y (xc,xn))=hx:=(by rw[aax af];exact HPa.o.symm);rw[hv];have zz:(hx != hx)=false:=ai;clear hv;go_wp2;go_roundw;exact⟨k+1,by omega,rfl,DW⟩;simp[intOf];omega
    case neg=>
     have Rz:=dH;clear dH x0 x1 HIs K1;go_wp2;go_loopw [18] (fun v wr=>∃ k:Nat,k≤l.length∧v=bU (k:Int)∧Hid (Below w7 w7 wr)) (fun v _=>l.length - (intOf v).toNat);(case atStart=>exact⟨0,aaG _,rfl,Rz⟩);clear Rz;obtain⟨k,hk,rfl,dH⟩:=hrel;by_cases hlt:k<l.length;case pos=>
      by_cases h0:k=0;(case pos=>subst h0;go_wp2_with fail;go_quiet (fail);have dG:=aa (below_drewN dH.o nq);generalize wr.drewN nq=w9 at dG ⊢;go_wp2;go_roundw;exact⟨1,by omega,rfl,dG⟩;simp[intOf];omega);case neg=>
       have h1l:k - 1<l.length:=by omega
       obtain⟨bl,ol,cs,hA,_,hbl,hcs,cM⟩:=(Q3.o.bZ dH.o).get hlt
       obtain⟨bl',ol',cs',hA',_,_,Dz,l_⟩:=(Q3.o.bZ dH.o).get h1l
       rw[hA]at hA'
       injection hA' with hA'
       injection hA' with e1 e2
       subst e1 e2
       subst hA
       have hcs:cs=[bU l[k].1,bV l[k].2]:=hcs
       have Dz:cs'=[bU l[k - 1].1,bV l[k - 1].2]:=Dz
       subst hcs Dz
       have a0:b_ wr bl (ol+k*2) (bU l[k].1):=by have:=cM 0 _ rfl;rwa [show ol+k*dI.k+0=ol+k*2 by rfl]at this
       have a1:b_ wr bl (ol+k*2+1) (bV l[k].2):=cM 1 _ rfl
       have b0:b_ wr bl (ol+(k - 1)*2) (bU l[k - 1].1):=by have:=l_ 0 _ rfl;rwa [show ol+(k - 1)*dI.k+0=ol+(k - 1)*2 by rfl]at this
       have b1:b_ wr bl (ol+(k - 1)*2+1) (bV l[k - 1].2):=l_ 1 _ rfl
       clear cM l_ hbl
       have Ex:Dx l[k - 1] l[k]:=List.pairwise_iff_getElem.1 YZ.o.asc _ _ h1l hlt af
       generalize l[k]=x at a0 a1 Ex
       generalize l[k - 1]=y at b0 b1 Ex
       obtain⟨xc,xn⟩:=x
       obtain⟨yc,yn⟩:=y
       dsimp only at a0 a1 b0 b1
       obtain⟨q,hq⟩:∃ q:Nat,q=k - 1:=⟨_,rfl⟩
       have hwp:IntKind.i64.wrap ((k:Int) - 1)=(q:Int):=by rw[IntWalk.i64_in _ af];omega
       have hmx:max (q:Int) 0=(q:Int):=by omega
       have zk:decide (0<k)=true:=decide_eq_true af
       have hql:(q:Int)<(l.length:Int):=by omega
       rw[← hq]at b0 b1
       clear hq
       rcases Ex with Ex|⟨hce,Ex⟩
       case' inl=>
        have Ex:yc<xc:=Ex
        have zg:decide (xc<yc)=false:=decide_eq_false af
        have ze:(yc==xc)=false:=by rw[beq_eq_false_iff_ne];omega
        clear Ex h0
       case' inr=>
        have hce:yc=xc:=hce
        subst hce
        have zg:decide (yc<yc)=false:=decide_eq_false af
        have ze:(yc==yc)=true:=by simp
        have hbl:Op.bytesLess yn.toList xn.toList=true:=by rw[bytesLess_eq,Lib.toList_data,Lib.toList_data];exact decide_eq_true Ex
        clear Ex h0
       case' inl=>
        go_upto_region 27 with fail
        refine cV (S:=fun w'=>∀ b' o',w'.cell? (bY b' o')=wr.cell? (bY b' o')) [0,1,2,3,4,10,11,5,12,6,13,7,14,8,9,15,16,17,18,24,25,19,26,20,27,21,28,22,23,29,30,31,32,38,39,33,40,34,41,35,42,36,37,43,44,45,46] [(0,false),(1,false),(2,false),(3,false),(4,false),(10,false),(11,false),(5,false),(12,false),(6,false),(13,false),(7,false),(14,false),(8,false),(9,false),(15,false),(16,false),(17,false),(18,false),(24,false),(25,false),(19,false),(26,false),(20,false),(27,false),(21,false),(28,false),(22,false),(23,false),(29,false),(30,false),(31,false),(32,false),(38,false),(39,false),(33,false),(40,false),(34,false),(41,false),(35,false),(42,false),(36,false),(37,false),(43,false),(44,false),(45,false),(46,false)] ah ah aq rfl ah (fun _ _=>rfl) ?_
        iterate 31 refine hwr ?_
        iterate 13 refine Zp ?_
        iterate 3 refine hwr ?_
        refine eD ?_
        try go_frame
       case' inr=>
        go_upto_region 27 with fail
        refine cV (S:=fun w'=>∀ b' o',w'.cell? (bY b' o')=wr.cell? (bY b' o')) [0,1,2,3,4,10,11,5,12,6,13,7,14,8,9,15,16,17,18,24,25,19,26,20,27,21,28,22,23,29,30,31,32,38,39,33,40,34,41,35,42,36,37,43,44,45,46] [(0,false),(1,false),(2,false),(3,false),(4,false),(10,false),(11,false),(5,false),(12,false),(6,false),(13,false),(7,false),(14,false),(8,false),(9,false),(15,false),(16,false),(17,false),(18,false),(24,false),(25,false),(19,false),(26,false),(20,false),(27,false),(21,false),(28,false),(22,false),(23,false),(29,false),(30,false),(31,false),(32,false),(38,false),(39,false),(33,false),(40,false),(34,false),(41,false),(35,false),(42,false),(36,false),(37,false),(43,false),(44,false),(45,false),(46,false)] ah ah aq rfl ah (fun _ _=>rfl) ?_
        iterate 47 refine hwr ?_
        refine eD ?_
        try go_frame
       all_goals (
        have dG:=aa (show Below w7 w7 wr.drew from dH.o.trans (show Below w7 wr wr.drew from⟨rfl,rfl,rfl,aaB _,fun _ _=>rfl⟩))
        clear a0 a1 b0 b1
        go_wp2_with fail
        go_roundw
        case rel=>exact⟨k+1,by omega,rfl,dG⟩
        case measure=>simp[intOf];omega)
     case neg=>
      have Rz:=dH
      clear dH
      rename World=>wo2
      go_wp2_with fail
      clear hlt hk UW
      go_loopw [19] (fun v wr=>∃ k:Nat,k≤s.cells.length∧v=bU (k:Int)∧Hid (Below w7 w7 wr)) (fun v _=>s.cells.length - (intOf v).toNat)
      case atStart=>exact⟨0,aaG _,rfl,Rz⟩
      case round=>
       clear Rz
       obtain⟨k,hk,rfl,dH⟩:=hrel
       rename World=>w4
       have x0:=(K7.o.bZ dH.o K7.o.lt).cell
       by_cases hlt:k<s.cells.length
       case pos=>
        have cG:=aa (HZ7.o _ dH.o);obtain⟨bi,oi,cs,hA,_,PF,ey,cM⟩:=(HI.o.cells.bZ cG.o).get hi;injection hA with hA;injection hA with e1 e2;subst e1 e2;obtain⟨es,G5,hie⟩:=ey;obtain⟨eR,yn,eT,eU,B9,c9,yr,oh,hes,_⟩:=cH.parts hie;subst hes;subst G5;clear oh;generalize yr.length=ny at hie cM;have g2:b_ w4 bc (oc+i*7+2) (bU eR):=cM 2 _ rfl;have g3:b_ w4 bc (oc+i*7+3) (bU yn):=cM 3 _ rfl;have g4:b_ w4 bc (oc+i*7+4) (bV eT):=cM 4 _ rfl;have g5:b_ w4 bc (oc+i*7+5) (bV eU):=cM 5 _ rfl;have g6:b_ w4 bc (oc+i*7+6) (bW B9 ny c9):=cM 6 _ rfl;have NC:=aa (fun W (h:Below w4 w4 W)=>zy 4 s.cells[k].name 1000000 aac s.cells[i].kY (HL.o.cells _ (aan hi)) W _ (di.keep hie (cB.cA h)));have OG:=aa (fun(hn:ez 4 s.cells[k].name s.cells[i].kY=true) m (hm:Hf s s.cells[k].name m) x (hx:x∈m)=>J9 HA.o (aan hi) YZ.o (aan hlt) hn hm hx);have PM:=aa (fun W (h:Below w w W)=>Vn HCs.o hlt (HOn.o (k:Int) W h));have HLk:=aa (HLc.o _ (aan hlt));clear cM hie;obtain⟨b2,o2,cs2,Yv,_,hb2,Gt,Gu⟩:=(HI.o.cells.bZ cG.o).get hlt;injection Yv with Yv;injection Yv with e1 e2;subst e1 e2;(have n0:b_ w4 bc (oc+k*7) (bV s.cells[k].name):=by obtain⟨es,G5,hie⟩:=Gt;exact Gu 0 _ (by rw[G5];rfl));clear Gt Gu hb2;generalize ez 4 s.cells[k].name s.cells[i].kY=r at NC OG;generalize s.cells[k].name=knm at n0 NC OG PM HLk;have jy:=aa (show Below w4 w4 w4.drew from⟨rfl,rfl,rfl,aaB _,fun _ _=>rfl⟩);have xM:=aa (show ∀ W,Below w4 w4 W→∀ b' o',b'<w4.heap.size→W.cell? (bY b' o')=w4.cell? (bY b' o')from fun W h b' o' hb=>h.cell (p:=bY b' o') hb);have v0:p<w4.heap.size:=aaD K7.o.lt dH.o.size;go_upto_region 32 with fail;refine cV (S:=fun w'=>∀ b' o',b'<w4.heap.size→w'.cell? (bY b' o')=w4.cell? (bY b' o')) [0,2,6,8,1,7,3,9,4,10,5,11,13] [(0,false),(2,false),(6,false),(8,false),(1,false),(7,false),(3,false),(9,false),(4,false),(10,false),(5,false),(11,false),(12,true),(13,false)] ah ah aq rfl ah (fun _ _ _=>rfl) ?_;(iterate 12 refine hwr ?_);refine hwt fun K hK=>?_;go_simp;refine(NC.o _ jy.o).mono ?_;rintro e w9 ⟨rfl,hb⟩;have je:=aa (jy.o.trans (hb.mono jy.o.size));clear hb;refine hK.o _ _ (xM.o _ je.o) ?_;clear hK K;refine hwr ?_;refine eD ?_;(try go_frame);have lD:=aa (dH.o.trans (je.o.mono dH.o.size));clear je xM jy x0 v0 n0 g2 g3 g4 g5 g6 PF NC cG;cases r;(case false=>clear OG PM HLk;go_wp2;go_roundw;exact⟨k+1,by omega,rfl,lD⟩;simp[intOf];omega);have x0:=(K7.o.bZ lD.o K7.o.lt).cell;have HPn2:=aa (OG.o rfl);go_upto_region 34 with(go_at_call 9;refine(PM.o w9 (HZ7.o _ lD.o)).mono ?_;rintro e Xy ⟨MA,mc,lm,rfl,hlm,hsm,hb⟩;have vK:=aa hsm;have Ii:=aa (HLk.o lm hlm);have HMx:=aa (HPn2.o lm hlm);have Xu:=aa (lD.o.trans (hb.mono lD.o.size));clear hb hsm hlm);clear x0 HPn2 OG PM HLk lD;have hml:=Ii.o;have pg:=aa (aaf Xy Xy);go_wp2;go_loopw [21] (fun v wr=>∃ e:Nat,e≤lm.length∧v=bU (e:Int)∧Hid (Below Xy Xy wr)) (fun v _=>lm.length - (intOf v).toNat);(case atStart=>exact⟨0,aaG _,rfl,pg⟩);clear pg;obtain⟨e,he,rfl,pg⟩:=hrel;have qL:=aa (Xu.o.trans (pg.o.mono Xu.o.size));by_cases hle:e<lm.length;(case pos=>obtain⟨bm,om,cs,hA,_,hbm,hcs,cM⟩:=(vK.o.bZ pg.o).get hle;subst hA;have hcs:cs=[bU lm[e].1,bV lm[e].2]:=hcs;subst hcs;(have a0:b_ wr bm (om+e*2) (bU lm[e].1):=by have:=cM 0 _ rfl;rwa [show om+e*dI.k+0=om+e*2 by rfl]at this);have a1:b_ wr bm (om+e*2+1) (bV lm[e].2):=cM 1 _ rfl;have hmy:=HMx.o _ (aan hle);clear cM;generalize lm[e]=y at a0 a1 hmy;obtain⟨yc,yn⟩:=y;dsimp only at a0 a1 hmy;have HMy:=aa (show(l.any fun z=>z.1==yc&&z.2==yn)=true from hmy);clear hmy;have jy:=aa (show Below wr wr wr.drew from⟨rfl,rfl,rfl,aaB _,fun _ _=>rfl⟩);have xM:=aa (show ∀ W,Below wr wr W→∀ b' o',b'<wr.heap.size→W.cell? (bY b' o')=wr.cell? (bY b' o')from fun W h b' o' hb=>h.cell (p:=bY b' o') hb);go_upto_region 37 with fail;refine cV (S:=fun w'=>∀ b' o',b'<wr.heap.size→w'.cell? (bY b' o')=wr.cell? (bY b' o')) [0,1,2,6,7,3,8,4,9,5,10,12] [(0,false),(1,false),(2,false),(6,false),(7,false),(3,false),(8,false),(4,false),(9,false),(5,false),(10,false),(11,true),(12,false)] ah ah aq rfl ah (fun _ _ _=>rfl) ?_;(iterate 11 refine hwr ?_);refine hwt fun K hK=>?_;go_simp;refine(BC LA lc l yc yn wr.drew (Q3.o.bZ (qL.o.trans (jy.o.mono qL.o.size))) af).mono ?_;rintro e Qn ⟨rfl,hb⟩;rw[HMy.o];have HB12:=aa (jy.o.trans (hb.mono jy.o.size));clear hb;refine hK.o _ _ (xM.o _ HB12.o) ?_;clear hK K;refine hwr ?_;refine eD ?_;(try go_frame);have HB13:=aa (pg.o.trans (HB12.o.mono pg.o.size));clear HB12 xM jy a0 a1 pg qL hbm;go_wp2;go_roundw;exact⟨e+1,by omega,rfl,HB13⟩;simp[intOf];omega);go_wp2;go_roundw;exact⟨k+1,by omega,rfl,qL⟩;simp[intOf];omega
       case neg=>
        clear YZ HA HOn HDi HLc HCd;have hmod:m.toNat % all.length<all.length:=Nat.mod_lt _ hal0;obtain⟨q,hq⟩:∃ q,q=m.toNat % all.length:=⟨_,rfl⟩;(have hrm:m.tmod (all.length:Int)=(q:Int):=by rw[hq,Int.tmod_eq_emod_of_nonneg af,Int.natCast_emod,Int.toNat_of_nonneg bm.1]);rw[← hq]at hmod;have hwm:IntKind.i64.wrap m=m:=IntWalk.i64_in _ af;have hwq:IntKind.i64.wrap (q:Int)=(q:Int):=IntWalk.i64_in _ af;obtain⟨ba,oa,cs,hA,_,hba,hcs,cM⟩:=(HSa.o.bZ dH.o).get hmod;subst hA;have hcs:cs=[.int .i64 all[q].1,bV all[q].2]:=hcs;subst hcs;(have a0:b_ w4 ba (oa+q*2) (.int .i64 all[q].1):=by have:=cM 0 _ rfl;rwa [show oa+q*dI.k+0=oa+q*2 by rfl]at this);have a1:b_ w4 ba (oa+q*2+1) (bV all[q].2):=cM 1 _ rfl;have Vb:=aa (fun W h=>HOfx.o all[q] (aan hmod) W h);have HPx:=aa (HPo.o all[q]);clear cM hba hq HOfx HPo;generalize all[q]=x at a0 a1 Vb HPx;obtain⟨xc,xn⟩:=x;dsimp only at a0 a1 Vb HPx;go_upto_region 40 with fail;obtain⟨wa,X8⟩:∃ W,W=w4.alloc (.cells #[.int .i64 xc,bV xn] 51):=⟨_,rfl⟩;have KX:=aa (show cN wa w4 51 [.int .i64 xc,bV xn] by rw[X8];exact heap_alloc_new w4 _);have Ih:=aa (show Below w7 w7 wa by rw[X8];exact dH.o.alloc dH.o.size _);rw[← X8];obtain⟨px,hpx⟩:∃ g,g=w4.heap.size:=⟨_,rfl⟩;rw[← hpx]at KX ⊢;clear X8 hpx a0 a1 x0 hrm hwm hwq dH;have x0:=(K7.o.bZ Ih.o K7.o.lt).cell;have xx:=KX.o.cell;have Sk:(UE s (xc,xn)).length≤100:=aaC (by unfold UE;exact List.length_filter_le _ _) (by rw[List.length_range];exact hlen.2.2.2);generalize UE s (xc,xn)=ov at Vb HPx Sk;go_upto_region 42 with(go_at_call 12;refine(Vb.o wa (HZ7.o _ Ih.o)).mono ?_;rintro e wb ⟨OA,oc2,rfl,hso,hb⟩;have HSo:=aa hso;have M9:=aa (Ih.o.trans (hb.mono Ih.o.size));have KXb:=aa (KX.o.bZ hb KX.o.lt);clear hb hso);clear x0 xx Vb Ih KX;have pg:=aa (aaf wb wb);go_wp2;go_loopw [23,25] (fun v23 v25 wr=>∃ j:Nat,j≤ov.length∧v25= .int .i64 (j:Int)∧v23= .bool ((ov.take j).any fun z=>z==i)∧Hid (Below wb wb wr)) (fun _ v25 _=>ov.length - (intOf v25).toNat);(case atStart=>exact⟨0,aaG _,rfl,rfl,pg⟩);clear pg;obtain⟨j,hj,rfl,rfl,pg⟩:=hrel;by_cases hlj:j<ov.length;case pos=>
         have nZ:=aa (show((ov.take (j+1)).any fun z=>z==i)=(((ov.take j).any fun z=>z==i)||(ov[j]==i)) by rw[aaz hlj,List.any_append];simp);generalize ((ov.take j).any fun z=>z==i)=d at nZ ⊢;cases d;(case true=>go_wp2;go_roundw;exact⟨j+1,by omega,rfl,by rw[nZ.o];rfl,pg⟩;simp[intOf];omega);obtain⟨bo,oo,cs,hA,_,Z4,hcs,cM⟩:=(HSo.o.bZ pg.o).get hlj;subst hA;have hcs:cs=[bU ((ov[j]:Nat):Int)]:=hcs;subst hcs;(have n0:b_ wr bo (oo+j) (bU ((ov[j]:Nat):Int)):=by have:=cM 0 _ rfl;rwa [show oo+j*jV.k+0=oo+j by show oo+j*1+0=_;omega]at this);clear cM;generalize ov[j]=oj at n0 nZ;have zj:(((oj:Nat):Int)==((i:Nat):Int))=(oj==i):=by
          rw[Bool.eq_iff_iff,beq_iff_eq,beq_iff_eq];omega
         go_wp2;go_roundw;exact⟨j+1,by omega,rfl,by rw[nZ.o];simp,pg⟩;simp[intOf];omega
        have hv:((ov.take j).any fun z=>z==i)=hasB l xc xn:=(by rw[aax af];exact HPx.o);rw[hv];obtain⟨hx,hhx⟩:∃ b,b=hasB l xc xn:=⟨_,rfl⟩;have HHx:=aa (show(l.any fun z=>z.1==xc&&z.2==xn)=hx from hhx.symm);rw[← hhx];have zz:(hx==hx)=true:=ai;have xx:=(KXb.o.bZ pg.o KXb.o.lt).cell;have qL:=aa (M9.o.trans (pg.o.mono M9.o.size));clear hv hhx HPx;go_wp2_with (go_at_call 16;refine(BC LA lc l xc xn wr (Q3.o.bZ qL.o) af).mono ?_;rintro e wf ⟨rfl,hb⟩;rw[HHx.o];have HBf:=aa (qL.o.trans (hb.mono qL.o.size));clear hb);exact HP.o (.returned (.bool true)) _ ⟨rfl,HZ7.o _ HBf.o⟩
end Go.Proofs.YtfppbjfnllhgcaaGreat
