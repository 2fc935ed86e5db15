/- Parts of the proof, packed (FewT to LwO); each theorem bears its own conditions. -/
import Derived.Test.YtfppbjfnllhgcaaGreatPn13
set_option linter.unusedVariables false
set_option linter.unusedSimpArgs false
set_option maxRecDepth 100000
set_option maxHeartbeats 8000000
open Go.Proofs.Tryz
open Go.Lib renaming hid → aa
open Nat renaming lt_of_lt_of_le→aaD,le_trans→aaC,zero_le→aaG
open List renaming getElem_mem→aan,eq_nil_of_length_eq_zero→aaj
open Go.RowKit.Below renaming refl→aaf
namespace Go.Proofs.YtfppbjfnllhgcaaGreat
section
open Go Go.RowKit Bg Go.Proofs Sh Kb
theorem Kv {s:cL} (h:Lit s):s.imports.length≤10000000∧s.inputs.length≤10000000∧s.tables.length≤10000000∧s.funcs.length≤10000000∧s.cells.length≤10000000∧s.dZ.length≤10000000∧s.stores.length≤10000000∧s.cI.length≤10000000:=by
 have h0:=h.uses;have h8:=h.Ig;have h1:(Sh.uses s).length=s.imports.length+s.inputs.length+s.dZ.length+s.stores.length+(s.tables.length+s.funcs.length)+s.cells.length:=(by simp[Sh.uses,gP,iC];omega);omega
def Vb (w:World) (e:Ending) (w':World):Prop:=∃ n:Int,e= .returned (bU n)∧Below w w w'
theorem QN (a:ki) (s:cL) (w:World) (hl:Lit s):Calls prog 23 #[.agg (dU a s).toArray] w (Vb w):=by
 obtain⟨h1,h2,h3,h4,h5,h6,h7,h8⟩:=Kv hl;obtain⟨A1,q1,A2,q2,A3,q3,A4,q4,A5,q5,A6,q6,A7,q7,A8,q8⟩:=a;simp only[dU];generalize hP:Vb w=P;have HP:=aa (show ∀ e w',Vb w e w'→P e w' from fun e w' h=>hP▸h);clear hP hl;generalize s.imports.length=n1 at h1 ⊢;generalize s.inputs.length=n2 at h2 ⊢;generalize s.tables.length=n3 at h3 ⊢;generalize s.funcs.length=n4 at h4 ⊢;generalize s.cells.length=n5 at h5 ⊢;generalize s.dZ.length=n6 at h6 ⊢;generalize s.stores.length=n7 at h7 ⊢;generalize s.cI.length=n8 at h8 ⊢;go_enter func23,ntmps23;go_upto_region 1 with fail;have K0:=aa (show cN (w.alloc (.cells #[bV s.name,bW A1 n1 q1,bW A2 n2 q2,bW A3 n3 q3,bW A4 n4 q4,bW A5 n5 q5,bW A6 n6 q6,bW A7 n7 q7,bW A8 n8 q8] 31)) w 31 [bV s.name,bW A1 n1 q1,bW A2 n2 q2,bW A3 n3 q3,bW A4 n4 q4,bW A5 n5 q5,bW A6 n6 q6,bW A7 n7 q7,bW A8 n8 q8]from heap_alloc_new w _);have HB:=aa (show Below w w (w.alloc (.cells #[bV s.name,bW A1 n1 q1,bW A2 n2 q2,bW A3 n3 q3,bW A4 n4 q4,bW A5 n5 q5,bW A6 n6 q6,bW A7 n7 q7,bW A8 n8 q8] 31))from cS _);generalize w.alloc (.cells #[bV s.name,bW A1 n1 q1,bW A2 n2 q2,bW A3 n3 q3,bW A4 n4 q4,bW A5 n5 q5,bW A6 n6 q6,bW A7 n7 q7,bW A8 n8 q8] 31)=w1 at K0 HB ⊢;generalize w.heap.size=p at K0 ⊢;have x0:=K0.o.cell;go_wp2;exact HP.o (.returned (bU _)) _ ⟨_,rfl,HB.o⟩
theorem QO (a:ki) (s:cL) (w:World) (hI:ei w Any a s) (hl:Lit s):Calls prog 7 #[.agg (dU a s).toArray] w (oP w):=by
 generalize hP:oP w=P
 have HP:=aa (show ∀ e w',oP w e w'→P e w' from fun e w' h=>hP▸h)
 clear hP
 have HI:=aa hI
 have HL:=aa hl
 obtain⟨l1,l2,l3,l4,l5,l6,l7,l8⟩:=Kv hl
 clear hI hl
 have Q3:=aa (fun W=>QN a s W HL.o)
 have HFw:=aa (fun W (h:Below w w W)=>QM a s W (HI.o.bZ h) HL.o)
 obtain⟨A1,q1,A2,q2,A3,q3,A4,q4,A5,q5,A6,q6,A7,q7,A8,q8⟩:=a
 simp only[dU]at Q3 HFw ⊢
 go_enter func7,ntmps7
 go_upto_region 1 with fail
 obtain⟨w1,p,hw,hp,K0,fG,HB,jB,xN⟩:=GL w (gT s A1 A2 A3 A4 A5 A6 A7 A8 q1 q2 q3 q4 q5 q6 q7 q8) 31
 rw[hw,hp]
 clear hw hp
 have x0:=K0.o.cell
 go_upto_region 2 with(go_at_call 23;refine(Q3.o _).mono ?_;rintro e w2 ⟨n,rfl,hb2⟩;have ep:=aa (show Below (p+1) w1 w2 from hb2.mono fG.o);clear hb2)
 have x0:=(K0.o.bZ ep.o af).cell
 go_wp2_with fail
 refine(HFw.o w2 (jB.o _ ep.o)).mono ?_
 rintro e w3 ⟨r,rfl,hb⟩
 replace ep:=aa (ep.o.trans (hb.mono (aaC fG.o ep.o.size)))
 clear hb x0 HFw Q3
 have x0:=(K0.o.bZ ep.o af).cell
 cases r
 case false=>
  go_wp2;exact HP.o (.returned (.bool false)) _ ⟨_,rfl,jB.o _ ep.o⟩
 case true=>
  by_cases hA:30<n∧n≤100;(case pos=>obtain⟨h30,SU⟩:=hA;go_wp2;exact HP.o (.returned (.bool false)) _ ⟨_,rfl,jB.o _ ep.o⟩);case neg=>
   by_cases h30:30<n
   case' pos=>have SU:¬n≤100:=fun h=>hA ⟨h30,h⟩
   all_goals (
    clear hA
    by_cases h2:8<s.inputs.length
    case pos=>
     go_wp2;exact HP.o (.returned (.bool false)) _ ⟨_,rfl,jB.o _ ep.o⟩
    case neg=>
     by_cases h3:4<s.tables.length;(case pos=>go_wp2;exact HP.o (.returned (.bool false)) _ ⟨_,rfl,jB.o _ ep.o⟩);by_cases h4:4<s.funcs.length;(case pos=>go_wp2;exact HP.o (.returned (.bool false)) _ ⟨_,rfl,jB.o _ ep.o⟩);by_cases h5:8<s.cells.length;(case pos=>go_wp2;exact HP.o (.returned (.bool false)) _ ⟨_,rfl,jB.o _ ep.o⟩);go_wp2;go_loopw [4] (fun v wr=>∃ k:Nat,k≤s.tables.length∧v=bU (k:Int)∧Hid (Below (p+1) w1 wr)) (fun v _=>s.tables.length - (intOf v).toNat);(case atStart=>exact⟨0,aaG _,rfl,ep⟩);clear ep x0;obtain⟨k,hk,rfl,ep⟩:=hrel;have cG:=aa (jB.o _ ep.o);have x0:=(K0.o.bZ ep.o af).cell;by_cases hlt:k<s.tables.length;(case pos=>obtain⟨b,o,cs,hA,_,hbl,ey,cT⟩:=(HI.o.tables.bZ cG.o).get hlt;subst hA;obtain⟨B,d,hcs,hst⟩:=ey;have HRl:=aa (HL.o.tables _ (aan hlt));subst hcs;generalize s.tables[k].rows.length=rl at cT HRl;have y2:b_ wr b (o+k*3+2) (bW B rl d):=cT 2 _ rfl;clear cT hst;by_cases h8:12<rl;(case pos=>go_wp2;exact HP.o (.returned (.bool false)) _ ⟨_,rfl,jB.o _ ep.o⟩);go_wp2;go_roundw;exact⟨k+1,by omega,rfl,ep⟩;simp[intOf];omega);case neg=>
      obtain rfl:k=s.tables.length:=by omega
      clear hk hlt
      rename World=>wo
      go_wp2_with fail
      go_loopw [5] (fun v wr=>∃ k:Nat,k≤s.funcs.length∧v=bU (k:Int)∧Hid (Below (p+1) w1 wr)) (fun v _=>s.funcs.length - (intOf v).toNat)
      case atStart=>exact⟨0,aaG _,rfl,ep⟩
      case round=>
       clear ep x0;obtain⟨k,hk,rfl,ep⟩:=hrel;have cG:=aa (jB.o _ ep.o);have x0:=(K0.o.bZ ep.o af).cell;by_cases hlt:k<s.funcs.length;case pos=>
        obtain⟨b,o,cs,hA,_,hbl,ey,cT⟩:=(HI.o.funcs.bZ cG.o).get hlt
        subst hA
        obtain⟨PA,pd,es,hcs,hsp,hie⟩:=ey
        obtain⟨op,nn,un,nm,Ae,ce,ar,_,hes,_⟩:=hie.parts
        subst hes
        subst hcs
        have HE:=aa (DB s.funcs[k].body _ wr 40 8 hie ((HL.o.funcs _ (aan hlt)).1) af)
        generalize ar.length=la at cT HE
        have y2:b_ wr b (o+k*7+2) (bU op):=cT 2 _ rfl
        have y3:b_ wr b (o+k*7+3) (bU nn):=cT 3 _ rfl
        have y4:b_ wr b (o+k*7+4) (bV un):=cT 4 _ rfl
        have y5:b_ wr b (o+k*7+5) (bV nm):=cT 5 _ rfl
        have y6:b_ wr b (o+k*7+6) (bW Ae la ce):=cT 6 _ rfl
        clear cT hie
        go_wp2_with fail
        refine HE.o.mono ?_
        rintro e w5 ⟨r,rfl,hb⟩
        replace ep:=aa (ep.o.trans (hb.mono (aaC fG.o ep.o.size)))
        clear hb HE y2 y3 y4 y5 y6 cG
        cases r
        case false=>
         go_wp2;exact HP.o (.returned (.bool false)) _ ⟨_,rfl,jB.o _ ep.o⟩
        case true=>
         go_wp2;go_roundw;exact⟨k+1,by omega,rfl,ep⟩;simp[intOf];omega
       case neg=>
        obtain rfl:k=s.funcs.length:=by omega
        clear hk hlt
        rename World=>wo
        go_wp2_with fail
        go_loopw [6] (fun v wr=>∃ k:Nat,k≤s.cells.length∧v=bU (k:Int)∧Hid (Below (p+1) w1 wr)) (fun v _=>s.cells.length - (intOf v).toNat)
        case atStart=>exact⟨0,aaG _,rfl,ep⟩
        case round=>
         clear ep x0;obtain⟨k,hk,rfl,ep⟩:=hrel;have cG:=aa (jB.o _ ep.o);have x0:=(K0.o.bZ ep.o af).cell;by_cases hlt:k<s.cells.length;case pos=>
          obtain⟨b,o,cs,hA,_,hbl,ey,cT⟩:=(HI.o.cells.bZ cG.o).get hlt
          subst hA
          obtain⟨es,hcs,hie⟩:=ey
          obtain⟨op,nn,un,nm,Ae,ce,ar,_,hes,_⟩:=hie.parts
          subst hes
          subst hcs
          have HE:=aa (DB s.cells[k].lC _ wr 40 8 hie (HL.o.cells _ (aan hlt)) af)
          generalize ar.length=la at cT HE
          have y2:b_ wr b (o+k*7+2) (bU op):=cT 2 _ rfl
          have y3:b_ wr b (o+k*7+3) (bU nn):=cT 3 _ rfl
          have y4:b_ wr b (o+k*7+4) (bV un):=cT 4 _ rfl
          have y5:b_ wr b (o+k*7+5) (bV nm):=cT 5 _ rfl
          have y6:b_ wr b (o+k*7+6) (bW Ae la ce):=cT 6 _ rfl
          clear cT hie
          go_wp2_with fail
          refine HE.o.mono ?_
          rintro e w5 ⟨r,rfl,hb⟩
          replace ep:=aa (ep.o.trans (hb.mono (aaC fG.o ep.o.size)))
          clear hb HE y2 y3 y4 y5 y6 cG
          cases r
          case false=>
           go_wp2;exact HP.o (.returned (.bool false)) _ ⟨_,rfl,jB.o _ ep.o⟩
          case true=>
           go_wp2;go_roundw;exact⟨k+1,by omega,rfl,ep⟩;simp[intOf];omega
         case neg=>
          obtain rfl:k=s.cells.length:=by omega
          clear hk hlt
          rename World=>wo
          go_wp2_with fail
          exact HP.o (.returned (.bool true)) _ ⟨_,rfl,cG.o⟩)
end
open Go Go.RowKit Bg Go.Proofs Sh Kb Ck Ln
theorem law_order (a:ki) (s:cL) (n m:Int) (w:World) (hI:ei w Any a s) (hl:Lit s) (bn:-9223372036854775808≤n∧n≤9223372036854775807) (bm:-9223372036854775808≤m∧m≤9223372036854775807):Calls prog 5 #[.agg (dU a s).toArray,bU n,bU m] w (og true w):=by
 generalize hP:og true w=P
 have HP:=aa (show ∀ e w',og true w e w'→P e w' from fun e w' h=>hP▸h)
 clear hP
 have HI:=aa hI
 have HL:=aa hl
 clear hI hl
 have HFw:=aa (fun W (h:Below w w W)=>QO a s W (HI.o.bZ h) HL.o)
 have HOn:=aa (fun n W (h:Below w w W)=>Bu a s n W (HI.o.bZ h) HL.o.sm)
 have HOr:=aa (fun W (h:Below w w W)=>E6 a s W (HI.o.bZ h) HL.o.sm)
 have UN:=aa (fun g hg i hi W (h:Below w w W)=>Qt a s g hg i hi W (HI.o.bZ h) HL.o.sm)
 obtain⟨A1,q1,A2,q2,A3,q3,A4,q4,A5,q5,A6,q6,A7,q7,A8,q8⟩:=a
 simp only[dU]at HFw HOn HOr UN ⊢
 go_enter func5,ntmps5
 go_upto_region 1 with fail
 obtain⟨w1,p,hw,hp,K0,fG,HB,jB,xN⟩:=GL w (gT s A1 A2 A3 A4 A5 A6 A7 A8 q1 q2 q3 q4 q5 q6 q7 q8) 31
 rw[hw,hp]
 clear hw hp
 have x0:=K0.o.cell
 go_upto_region 2 with(go_at_call 6;refine(U9 w1).mono ?_;rintro e w2 ⟨rfl,hb⟩;have ep:=aa (show Below (p+1) w1 w2 from hb.mono fG.o);clear hb)
 have x0:=(K0.o.bZ ep.o af).cell
 go_wp2_with fail
 refine(HFw.o w2 (jB.o _ ep.o)).mono ?_
 rintro e w3 ⟨r,rfl,hb⟩
 replace ep:=aa (ep.o.trans (hb.mono (aaC fG.o ep.o.size)));clear hb
 clear x0 HFw
 have x0:=(K0.o.bZ ep.o af).cell
 cases r
 case false=>
  go_wp2;exact HP.o (.returned (.bool true)) _ ⟨rfl,jB.o _ ep.o⟩
 case true=>
  by_cases hm0:m<0;(case pos=>have z0:decide (m<0)=true:=(by simpa using hm0);go_wp2;exact HP.o (.returned (.bool true)) _ ⟨rfl,jB.o _ ep.o⟩);have z0:decide (m<0)=false:=(by simpa using hm0);obtain⟨k,rfl⟩:∃ k:Nat,m=k:=⟨m.toNat,by omega⟩;by_cases hkc:k<s.cells.length;(case neg=>have z1:decide ((k:Int)≥(s.cells.length:Int))=true:=aq;clear hm0;go_wp2;exact HP.o (.returned (.bool true)) _ ⟨rfl,jB.o _ ep.o⟩);case pos=>
   have z1:decide ((k:Int)≥(s.cells.length:Int))=false:=by simp;omega
   go_upto_region 5 with(go_at_call 9;refine(HOn.o n w3 (jB.o _ ep.o)).mono ?_;rintro e w4 ⟨LA,lc,l,rfl,si,hb,hl⟩;have HSl:=aa si;replace ep:=aa (ep.o.trans (hb.mono (aaC fG.o ep.o.size)));clear hb;clear si)
   clear x0 z0 z1
   have x0:=(K0.o.bZ ep.o af).cell
   rcases hl with⟨_,hl0⟩|⟨CR,i,hi,hni,V4⟩
   case' inl=>
    subst hl0
    go_wp2_with fail
    exact HP.o (.returned (.bool true)) _ ⟨rfl,jB.o _ ep.o⟩
   case inr=>
    subst hni;obtain⟨hr,_,_⟩:=th CR;have uD:=aa (fun c (hc:c∈s.cells) l (h:Fc s c.name l)=>XN hr HL.o.sm hc h);have FR:=uD.o _ (aan hi) _ V4;have hown:=Qa (aan hi) V4;have hl0:l.length≠0:=fun e=>by
     have:l=[]:=aaj e;subst this;cases hown
    obtain⟨g,hg,ho,hoL,hpt⟩:=JT CR;obtain⟨hp1,hp2⟩:=hpt i k hi hkc l V4;obtain⟨gl1,gl2,gl3,_⟩:=kY HL.o.sm hg;have hgr:=(gl3 i).2;have S4:=aa (fun W (h:Below w w W)=>U8 CR hkc (HOn.o (k:Int) W h));have Vz:=aa (UN.o g hg i af);have KJ:=aa (show hasB l 4 s.cells[k].name=l.any fun z=>z.1==4&&z.2==s.cells[k].name from rfl);have hoL2:(gG s).2.length≤100:=af;have ue:=aa (show s.funcs.length=0→k≠i→hasB l 4 s.cells[k].name=true→Fe (gG s).2 k<Fe (gG s).2 i∧∀ m,Fc s s.cells[k].name m→hasB m 4 s.cells[i].name=false from fun h=>hp2 (aaj h));have uE:=aa hp1;generalize hb1:hasB l 4 s.cells[k].name=leans at uE ue KJ;clear hb1 hp1 hp2 hpt hg gl1 gl3 UN hown V4 hr CR hm0 gl2;generalize gG s=od at ho hoL hoL2 ue HOr;obtain⟨oe,ol⟩:=od;dsimp only at ho hoL hoL2 ue;subst ho;generalize g.getD i []=row at uE Vz hgr;have HoL:=aa hoL;have z0:((l.length:Int)==0)=false:=(by simpa using hl0);have z1:decide ((i:Int)≥(s.cells.length:Int))=false:=aq;have HOr2:Hid (∀ W,Below w w W→Calls prog 19 #[.agg (gT s A1 A2 A3 A4 A5 A6 A7 A8 q1 q2 q3 q4 q5 q6 q7 q8)] W fun e w'=>∃ A c,e= .returned (.tuple #[bW A ol c,bU 0])∧Sq jx w' Any A ol∧Below W W w'):=aa (fun W h=>(HOr.o W h).mono (by rintro e w' ⟨A,c,rfl,h1,h2⟩;exact⟨A,c,rfl,h1.all,h2⟩));rw[hoL]at HOr2;clear hoL HOr hl0;have cG:=aa (jB.o _ ep.o);obtain⟨bk,o,cs,hA,_,hbk,ey,hclk⟩:=(HI.o.cells.bZ cG.o).get hkc;obtain⟨bi,oi,cs2,Wq,_,Pe,Ge,hcli⟩:=(HI.o.cells.bZ cG.o).get hi;(have k0:b_ w4 bk (o+k*7) (bV s.cells[k].name):=by obtain⟨es,P4,hie⟩:=ey;exact hclk 0 _ (by rw[P4];rfl));(have i0:b_ w4 bi (oi+i*7) (bV s.cells[i].name):=by obtain⟨es,P4,hie⟩:=Ge;exact hcli 0 _ (by rw[P4];rfl));rw[hA]at Wq;injection Wq with Wq;injection Wq with e1 e2;subst e1 e2;subst hA;clear ey Ge hclk hcli Pe;have HLk:=aa (uD.o _ (aan hkc));clear uD;generalize hkn:s.cells[k].name=knm at k0 ue KJ S4 HLk;generalize hin:s.cells[i].name=inm at i0 ue;clear hkn hin;go_upto_region 8 with(go_at_call 19;refine(HOr2.o w4 cG.o).mono ?_;rintro e w5 ⟨OA,oc,rfl,hso,hb⟩;have HSo:=aa hso;have HSl2:=aa (HSl.o.bZ hb);have XO:=aaD hbk hb.size;have k5:=(hb.cell (p:=bY bk (o+k*7)) hbk).trans k0;have i5:=(hb.cell (p:=bY bk (o+i*7)) hbk).trans i0;replace ep:=aa (ep.o.trans (hb.mono (aaC fG.o ep.o.size)));clear hb;clear hso);clear x0 HSl HOr2 k0 i0 hbk z0 cG;have x0:=(K0.o.bZ ep.o af).cell;go_upto_region 9 with(go_at_call 20;refine(Vz.o w5 (jB.o _ ep.o)).mono ?_;rintro e w6 ⟨NA,nc,rfl,hsn,hb⟩;have Xg:=aa hsn.all;have HSl3:=aa (HSl2.o.bZ hb);have HSo6:=aa (HSo.o.bZ hb);have hbk6:=aaD XO hb.size;have k6:=(hb.cell (p:=bY bk (o+k*7)) XO).trans k5;have i6:=(hb.cell (p:=bY bk (o+i*7)) XO).trans i5;replace ep:=aa (ep.o.trans (hb.mono (aaC fG.o ep.o.size)));clear hb;clear hsn);clear x0 HSl2 HSo Vz k5 i5 XO;have x0:=(K0.o.bZ ep.o af).cell;go_upto_region 10 with(go_at_call 16;refine(Og LA lc l 4 knm w6 HSl3.o af).mono ?_;rintro e w7 ⟨rfl,hb⟩;rw[← KJ.o];have HSn7:=aa (Xg.o.bZ hb);have HSo7:=aa (HSo6.o.bZ hb);have hbk7:=aaD hbk6 hb.size;have i7:=(hb.cell (p:=bY bk (o+i*7)) hbk6).trans i6;replace ep:=aa (ep.o.trans (hb.mono (aaC fG.o ep.o.size)));clear hb);clear x0 HSl3 HSo6 Xg k6 i6 hbk6 KJ;have x0:=(K0.o.bZ ep.o af).cell;have Ot:=aa (fun W (h:Below w7 w7 W)=>Un NA nc row k W (HSn7.o.bZ h) af);generalize Fe row k=av at Ot uE;cases leans;(case false=>(have hav:¬0≤av:=fun h=>by cases uE.o h);have zt:decide (av≥0)=false:=(by simpa using hav);clear hav;go_wp2_with (go_at_call 21;refine(Ot.o w7 (aaf _ _)).mono ?_;rintro e w8 ⟨rfl,hb⟩;replace ep:=aa (ep.o.trans (hb.mono (aaC fG.o ep.o.size)));clear hb);exact HP.o (.returned (.bool true)) _ ⟨rfl,jB.o _ ep.o⟩);case true=>
     by_cases hav:0≤av
     case' pos=>have zt:decide (av≥0)=true:=by simpa using hav
     case' neg=>have zt:decide (av≥0)=false:=by simpa using hav
     all_goals (
      clear hav uE
      go_upto_region 12 with(go_at_call 21;refine(Ot.o w7 (aaf _ _)).mono ?_;rintro e w8 ⟨rfl,hb⟩;have UU:=aa (HSo7.o.bZ hb);have hbk8:=aaD hbk7 hb.size;have i8:=(hb.cell (p:=bY bk (o+i*7)) hbk7).trans i7;replace ep:=aa (ep.o.trans (hb.mono (aaC fG.o ep.o.size)));clear hb)
      clear x0 zt Ot HSn7 HSo7 i7 hbk7
      have x0:=(K0.o.bZ ep.o af).cell
      by_cases hki:k=i
      case pos=>
       have zk:((k:Int)==(i:Int))=true:=(by rw[hki];simp);clear hki ue;go_wp2;exact HP.o (.returned (.bool true)) _ ⟨rfl,jB.o _ ep.o⟩
      case neg=>
       have zk:((k:Int)==(i:Int))=false:=aU;by_cases hfn:s.funcs.length=0;(case neg=>have zf:0<s.funcs.length:=af;clear hfn hki ue;go_wp2;exact HP.o (.returned (.bool true)) _ ⟨rfl,jB.o _ ep.o⟩);have zf:¬0<s.funcs.length:=af;obtain⟨hlt,hno⟩:=ue.o hfn hki ai;have zl:decide (Fe ol k<Fe ol i)=true:=(by simpa using hlt);have HNo:=aa (show ∀ m,Fc s knm m→(m.any fun z=>z.1==4&&z.2==inm)=false from hno);have XP:=aa (jB.o _ ep.o);have lM:=aa (show Below w8 w8 w8.drew from⟨rfl,rfl,rfl,Nat.le_refl _,fun _ _=>rfl⟩);have FQ:=aa (show ∀ W,Below w8 w8 W→∀ b' o',b'<w8.heap.size→W.cell? (bY b' o')=w8.cell? (bY b' o')from fun W h b' o' hb=>h.cell (p:=bY b' o') hb);have HAo:Hid (∀ (m:Nat) (W:World),Sq jx W Any OA ol→Calls prog 21 #[bW OA s.cells oc,bU (m:Int)] W fun e w'=>e= .returned (bU (Fe ol m))∧Below W W w'):=aa (fun m W h=>by have h2:=Un OA oc ol m W h af;rwa [HoL.o]at h2);have v0:p<w8.heap.size:=aaD K0.o.lt ep.o.size;clear hfn hki hlt hno ue;go_upto_region 14 with fail;refine dz (S:=fun w'=>∀ b' o',b'<w8.heap.size→w'.cell? (bY b' o')=w8.cell? (bY b' o')) [0,1,2,3,5,6,8,9,10,11,12,14,16,15,17,18,19,21,22,23] [(0,false),(1,false),(2,false),(3,false),(5,false),(6,false),(4,true),(7,true),(8,false),(9,false),(10,false),(11,false),(12,false),(14,false),(16,false),(15,false),(17,false),(18,false),(19,false),(13,true),(20,true),(21,false),(22,false),(23,false)] ah ah au rfl ah (fun _ _ _=>rfl) ?_;(iterate 6 refine hwr ?_);refine hwt fun K hK=>?_;go_simp;refine(HAo.o k _ (UU.o.bZ lM.o)).mono ?_;rintro e w9 ⟨rfl,hb⟩;have jt:=aa (lM.o.trans (hb.mono lM.o.size));clear hb;refine hK.o _ _ (FQ.o _ jt.o) ?_;clear hK K;refine hwt fun K hK=>?_;go_simp;refine(HAo.o i w9 (UU.o.bZ jt.o)).mono ?_;rintro e w10 ⟨rfl,hb⟩;have PV:=aa (jt.o.trans (hb.mono jt.o.size));clear hb;refine hK.o _ _ (FQ.o _ PV.o) ?_;clear hK K;(iterate 11 refine hwr ?_);refine hwt fun K hK=>?_;go_simp;refine(S4.o w10 (XP.o.trans (PV.o.mono XP.o.size))).mono ?_;rintro e w11 ⟨MA,mc,lm,rfl,hlm,hsm,hb⟩;have TT:=aa (PV.o.trans (hb.mono PV.o.size));have vH:=aa hsm;have Hr:=aa (HLk.o _ hlm);have Yy:=aa (HNo.o lm hlm);clear hb hsm hlm;refine hK.o _ _ (FQ.o _ TT.o) ?_;clear hK K;refine hwt fun K hK=>?_;go_simp;refine(Og MA mc lm 4 inm w11 vH.o (by have:=Hr.o;omega)).mono ?_;rintro e P7 ⟨rfl,hb⟩;have HB12:=aa (TT.o.trans (hb.mono TT.o.size));clear hb;refine hK.o _ _ (FQ.o _ HB12.o) ?_;clear hK K;(iterate 3 refine hwr ?_);refine fA ?_;(try go_frame);have YI:=aa (XP.o.trans (HB12.o.mono XP.o.size));rw[Yy.o];go_wp2;exact HP.o (.returned (.bool true)) _ ⟨rfl,YI.o⟩)
end Go.Proofs.YtfppbjfnllhgcaaGreat
