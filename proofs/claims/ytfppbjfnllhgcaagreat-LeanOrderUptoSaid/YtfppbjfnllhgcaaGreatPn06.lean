/- Parts of the proof, packed (CallP to ExpS); each theorem bears its own conditions. -/
import Derived.Test.YtfppbjfnllhgcaaGreatPn05
set_option linter.unusedVariables false
set_option linter.unusedSimpArgs false
set_option maxRecDepth 100000
set_option maxHeartbeats 8000000
open Go.Proofs.Tryz
open Go.Lib renaming hid → aa
open Nat renaming lt_of_lt_of_le→aaD,le_trans→aaC,zero_le→aaG,lt_succ_self→aaE
open Go.World renaming size_alloc→aaI
open List renaming getElem_mem→aan,length_append→aao,getD_eq_getElem?_getD→aam,mem_singleton→aau,mem_cons→aas,length_map→aap,mem_append→aar,take_succ_eq_append_getElem→aaz,mem_map→aat,replicate→aaw,range→aav
open Go.RowKit.Below renaming refl→aaf
open Bool renaming and_eq_true→aag
theorem aT {p:Prop} (h:p:=by rw[a1];omega):p:=h
theorem bC {p:Prop} (h:p:=by simp[results,Tryz.results42,go_sem,zz]):p:=h
theorem bI {p:Prop} (h:p:=by simp[uses,iC,gP];omega):p:=h
namespace Go.Proofs.YtfppbjfnllhgcaaGreat
section
open Go Go.RowKit Bg Go.Proofs Sh Kb
section
mutual
def lp (ps:List eR) (args:List cV):cw→cV
 | .mk op n un nm l=>if op=1 then args.getD (mY ps nm).toNat kH else
  match sM ps args l []with
  | .inl z=>z
  | .inr acc=>tY op n un nm 1 1 [] acc
def sM (ps:List eR) (args:List cV):List cw→List cV→cV ⊕ List cV
 |[],acc=> .inr acc
 |y :: l,acc=>if(lp ps args y).full then .inl (lp ps args y)else sM ps args l (acc++[lp ps args y])
end
theorem yo {ps:List eR} {args:List cV} {y:cw} {l:List cw} {acc:List cV}:sM ps args (y :: l) acc=if(lp ps args y).full then .inl (lp ps args y)else sM ps args l (acc++[lp ps args y]):=by
 (conv=>lhs;unfold sM)
theorem Be {ps:List eR} {args:List cV} {op n:Int} {un nm:ByteArray} {l:List cw} (h:¬op=1):lp ps args (.mk op n un nm l)=match sM ps args l []with| .inl z=>z| .inr acc=>tY op n un nm 1 1 [] acc:=by
 (conv=>lhs;unfold lp);rw[if_neg h]
theorem tZ {ps:List eR} {args:List cV} {n:Int} {un nm:ByteArray} {l:List cw}:lp ps args (.mk 1 n un nm l)=args.getD (mY ps nm).toNat kH:=by
 unfold lp;rw[if_pos rfl]
theorem Ja:pO kH:=⟨by decide,by decide,by decide,by decide⟩
theorem N1 {ps:List eR} {args:List cV}:∀ (l:List cw) (acc:List cV),(∀ y∈l,pO (lp ps args y))→(∀ z∈acc,pO z)→match sM ps args l acc with| .inl z=>pO z| .inr r=>∀ z∈r,pO z
 |[],acc,_,h=>by unfold sM;exact h
 |y :: l,acc,hy,h=>by
  rw[yo];by_cases hf:(lp ps args y).full=true
  (·rw[if_pos hf];exact hy y ai);rw[if_neg hf];exact N1 l _ (fun z hz=>hy z (by simp[hz])) fun z hz=>by
   rcases aar.1 hz with hz|hz
   (·exact h z hz);rw[aau.1 hz];exact hy y ai
theorem WA {ps:List eR} {args:List cV} (ha:∀ y∈args,pO y) (N:Nat):∀ (x:cw),cE x≤N→pO (lp ps args x):=by
 induction N with
 |zero=>intro x hx;have:=dB x;omega
 |succ N ih=>
  intro x hx;cases x with
  |mk op n u nm l=>
   have hn:cE (.mk op n u nm l)=1+cR l:=aM;by_cases h:op=1
   ·subst h;rw[tZ];by_cases hj:(mY ps nm).toNat<args.length
    (·rw[aam,List.getElem?_eq_getElem hj];exact ha _ (aan hj));rw[aam,List.getElem?_eq_none af];exact Ja
   rw[Be h];have h2:=N1 (ps:=ps) (args:=args) l [] (fun y hy=>ih y aN) (fun z hz=>by simp at hz);cases hp:sM ps args l []with
   |inl z=>rw[hp]at h2;exact h2
   |inr r=>rw[hp]at h2;exact Gh r 1 1 [] ak ak ak ak h2
theorem Jb:Pj prog 237 176 8:= .of (.agg #[bU 0,bU 0,bV ByteArray.empty,bV ByteArray.empty,cD,bU 0,bU 0,.bool false]) 96 underlying237 ah ah ak ak
structure Jc (S0:Nat→Prop) (w:World) (Jd cs7:List Value) (v:Value) (acc:List cV) (wr:World):Prop where
 b0:cN wr w 47 Jd
 b1:cN wr (w+1) 69 cs7
 b2:cN wr (w+1+1) 176 [bU 0,bU 0,bV ⟨#[]⟩,bV ⟨#[]⟩,cD,bU 0,bU 0,.bool false]
 own:dM eT 176 (w+1+1+1) wr (fun b=>S0 b∨w.heap.size+1+1+1≤b) v acc
 low:Below w w wr
 size:w.heap.size+1+1+1≤wr
section
variable {S0:Nat→Prop} {w wr w':World} {Jd cs7:List Value} {v:Value} {acc:List cV}
theorem Jc.bZ (h:Jc S0 w Jd cs7 v acc wr) (hb:Below wr wr w'):Jc S0 w Jd cs7 v acc w':=by
 have hs:=h.size;exact⟨h.b0.bZ hb af,h.b1.bZ hb af,h.b2.bZ hb af,h.own.bZ hb,h.low.trans (hb.mono h.low.size),aaC hs hb.size⟩
theorem Jc.more {o:Obj} {w9:World} {v':Value} {ys:List cV} (h:Jc S0 w Jd cs7 v acc wr) (G:Grown eT 176 (w+1+1+1) (wr.alloc o) (fun b=>S0 b∨w.heap.size+1+1+1≤b) v ys w9 v'):Jc S0 w Jd cs7 v' ys w9:=by
 have hs:=h.size;have ha:(wr.alloc o).heap.size=wr.heap.size+1:=ai;have hb:=G.bZ (h.own.bZ (cS o)) af;have hb2:=hb.size;have blk:∀ {g t:Nat} {cs:List Value},g<w.heap.size+1+1+1→cN wr g t cs→cN w9 g t cs:=fun h1 h2=>(hb.block _ h1).trans ((heap_alloc_old _ _ af).trans h2);exact⟨blk af h.b0,blk af h.b1,blk af h.b2,G.own,(h.low.alloc h.low.size o).trans (hb.mono af),by omega⟩
end
theorem SZ (B0:Nat) (S0:Nat→Prop) (hS0:∀ b,S0 b→b<B0) (fn:ByteArray) (PA:Option Addr) (pd:Nat) (ps:List eR) (fo fm:Int) (fu fq:ByteArray) (FB:Option Addr) (fk fc:Nat) (AA:Option Addr) (ac:Nat) (args:List cV) (hps:ps.length≤6) (hal:args.length=ps.length) (hao:∀ y∈args,pO y) (N:Nat) (hN:N≤1000000):∀ (x:cw),cE x≤N→dy (iU ps) x=false→∀ (w:World) (cs:List Value),cH w Any cs x→B0≤w.heap.size→Sq jo w Any PA ps→Sq eT w (fun b=>S0 b) AA args→Calls prog 151 #[.agg cs.toArray,.agg #[bV fn,bW PA ps pd,bU fo,bU fm,bV fu,bV fq,bW FB fk fc],bW AA args ac] w (pP (fun b=>S0 b) (lp ps args x) w):=by
 induction N with
 |zero=>intro x hx;have:=dB x;omega
 |succ N ih=>
  intro x hx hst w cs hI hB0 hsp hsa
  replace ih:=ih af
  generalize hP:pP (fun b=>S0 b) (lp ps args x) w=P
  have HP:=aa (show ∀ e w',pP (fun b=>S0 b) (lp ps args x) w e w'→P e w' from fun e w' h=>hP▸h)
  clear hP
  obtain⟨op,n,un,nm,A2,c2,ar,e1,e2,hS⟩:=cH.parts hI
  subst e1 e2
  have xH:cE (.mk op n un nm ar)=1+cR ar:=by unfold cE;rfl
  have hnl:=fZ ar
  have AO:Hid (Jc S0 w [bU op,bU n,bV un,bV nm,bW A2 ar c2] [bV fn,bW PA ps pd,bU fo,bU fm,bV fu,bV fq,bW FB fk fc] cD [] (((w.alloc (.cells #[bU op,bU n,bV un,bV nm,bW A2 ar c2] 47)).alloc (.cells #[bV fn,bW PA ps pd,bU fo,bU fm,bV fu,bV fq,bW FB fk fc] 69)).alloc (.cells #[bU 0,bU 0,bV ⟨#[]⟩,bV ⟨#[]⟩,cD,bU 0,bU 0,.bool false] 176))):=by
   have a1:(w.alloc (.cells #[bU op,bU n,bV un,bV nm,bW A2 ar c2] 47)).heap.size=w.heap.size+1:=ai;have a2:((w.alloc (.cells #[bU op,bU n,bV un,bV nm,bW A2 ar c2] 47)).alloc (.cells #[bV fn,bW PA ps pd,bU fo,bU fm,bV fu,bV fq,bW FB fk fc] 69)).heap.size=w.heap.size+1+1:=ai;have k1:=heap_alloc_new (w.alloc (.cells #[bU op,bU n,bV un,bV nm,bW A2 ar c2] 47)) (.cells #[bV fn,bW PA ps pd,bU fo,bU fm,bV fu,bV fq,bW FB fk fc] 69);have k2:=heap_alloc_new ((w.alloc (.cells #[bU op,bU n,bV un,bV nm,bW A2 ar c2] 47)).alloc (.cells #[bV fn,bW PA ps pd,bU fo,bU fm,bV fu,bV fq,bW FB fk fc] 69)) (.cells #[bU 0,bU 0,bV ⟨#[]⟩,bV ⟨#[]⟩,cD,bU 0,bU 0,.bool false] 176);rw[a1]at k1;rw[a2]at k2;exact aa ⟨(heap_alloc_old _ _ (by rw[a2];omega)).trans ((heap_alloc_old _ _ aT).trans (heap_alloc_new w _)),(heap_alloc_old _ _ (by rw[a2];omega)).trans k1,k2,dM.qK,((cS _).alloc aT _).alloc (by rw[a2];omega) _,by rw[aaI,a2];omega⟩
  have HHd:=aa (ia hst)
  have HSub:=aa (fun y (hy:y∈ar)=>And.intro (iY (y:=y) hst hy) (show cE y≤N by have:=dH ar y hy;omega))
  have HSP:=aa hsp
  have HSA:=aa hsa
  have HI:=aa hS
  have har:ar.length≤1000000:=by omega
  clear hst hI hsp hsa hS xH hx
  by_cases ho:op=1
  ·
   subst ho;have hj:¬mY ps nm<0:=by
    intro h8;have h9:((1:Int)==1&&decide (mY ps nm<0))=false:=HHd.o;rw[decide_eq_true h8]at h9;cases h9
   have hj2:=FZ (Y7 nm) ps;change mY ps nm<_ at hj2;have HW:=aa (tZ (ps:=ps) (args:=args) (n:=n) (un:=un) (nm:=nm) (l:=ar));have EI:=aa (fun W (hb:Below w w W)=>ox .nilFunc PA pd ps fo fm fu fq FB fk fc fn nm W (HSP.o.bZ hb) aH);generalize mY ps nm=z at hj hj2 HW EI;obtain⟨j,rfl⟩:∃ j:Nat,z=(j:Int):=⟨z.toNat,by omega⟩;have hja:j<args.length:=af;rw[Int.toNat_natCast,aam,List.getElem?_eq_getElem hja]at HW;obtain⟨bl,o,cs,hA,hbB,hbl,ey,cT⟩:=HSA.o.get hja;subst hA;generalize args[j]=y at HW ey;have HX:=aa ey;obtain⟨es,e,hie⟩:=ey;obtain⟨eU,yn,eV,eW,A3,c3,yr,_,hes,_⟩:=hie.parts;subst hes e;go_enter func151,ntmps151;go_upto_region 1 with fail;generalize (((w.alloc (.cells #[.int .i64 1,.int .i64 n,bV un,bV nm,bW A2 ar c2] 47)).alloc (.cells #[bV fn,bW PA ps pd,.int .i64 fo,.int .i64 fm,bV fu,bV fq,bW FB fk fc] 69)).alloc (.cells #[.int .i64 0,.int .i64 0,bV ⟨#[]⟩,bV ⟨#[]⟩,cD,.int .i64 0,.int .i64 0,.bool false] 176))=w3 at AO ⊢;have z0:=AO.o.b0.cell;have z1:=AO.o.b1.cell;have hsz:=AO.o.size;go_wp2_with fail;refine(EI.o w3 AO.o.low).mono ?_;rintro e w4 ⟨rfl,hb4⟩;have ZN:=aa (AO.o.bZ hb4);clear hb4 EI AO z0 z1 hsz ih;have hs4:=ZN.o.size;have hc:∀ i v,[Value.int .i64 eU,.int .i64 yn,bV eV,bV eW,bW A3 yr c3,.int .i64 y.nodes,.int .i64 y.levels,.bool y.full][i]? =some v→b_ w4 bl (o+j*8+i) v:=fun i v h=>(ZN.o.low.cell (p:=bY bl (o+j*8+i)) hbl).trans (cT i v h);have g0:b_ w4 bl (o+j*8) (.int .i64 eU):=hc 0 _ rfl;have g1:=hc 1 _ rfl;have g2:=hc 2 _ rfl;have g3:=hc 3 _ rfl;have g4:=hc 4 _ rfl;have g5:=hc 5 _ rfl;have g6:=hc 6 _ rfl;have g7:=hc 7 _ rfl;have z2:=ZN.o.b2.cell;have f2:=ZN.o.b2.frozen;obtain⟨wF,qw,qx,kF,pQ⟩:=CK ZN.o.b2 rfl (.int .i64 eU) (.int .i64 yn) (bV eV) (bV eW) (bW A3 yr c3) (.int .i64 y.nodes) (.int .i64 y.levels) (.bool y.full);have zF:=qx.cell;have HE:=aa (show pP (fun b=>S0 b) (lp ps args (.mk 1 n un nm ar)) w (.returned (.agg #[.int .i64 eU,.int .i64 yn,bV eV,bV eW,bW A3 yr c3,.int .i64 y.nodes,.int .i64 y.levels,.bool y.full])) wF by
    rw[HW.o];have hk:cB (fun b=>S0 b) w wF:=(cB.cA ZN.o.low).trans ⟨kF.1,fun b hb h=>kF.2 b hb (by have:=hS0 b h;omega)⟩;exact⟨_,rfl,eT.mono (eT.keep HX.o hk) fun b _ h=> .inl h,pQ _ _ ZN.o.low af⟩)
   have rT:=aa qw;generalize y.nodes=yN at*;generalize y.levels=yL at*;generalize y.full=yF at*;clear qw qx kF pQ hc cT HX hie HW;go_wp2_with fail;rw[← rT.o];exact bodyPost_ret (by simp[results,results151,go_sem,zF]) rfl (HP.o _ _ HE.o)
  ·
   have ho3:(op==1)=false:=bD;have HW:=aa (Be (ps:=ps) (args:=args) (n:=n) (un:=un) (nm:=nm) (l:=ar) ho);have S4:=aa (fun y (hy:cE y≤N)=>WA (ps:=ps) hao N y hy);clear ho HHd hal;go_enter func151,ntmps151;go_upto_region 1 with fail;generalize (((w.alloc (.cells #[bU op,bU n,bV un,bV nm,bW A2 ar c2] 47)).alloc (.cells #[bV fn,bW PA ps pd,bU fo,bU fm,bV fu,bV fq,bW FB fk fc] 69)).alloc (.cells #[bU 0,bU 0,bV ⟨#[]⟩,bV ⟨#[]⟩,cD,bU 0,bU 0,.bool false] 176))=w3 at AO ⊢;have z0:=AO.o.b0.cell;go_wp2_with fail;clear z0;go_loopw [7,24] (fun v7 s24 wr=>∃ (k:Nat) (v:Value) (acc:List cV),k≤ar.length∧s24=bU (k:Int)∧v=v7∧Hid (Jc S0 w [bU op,bU n,bV un,bV nm,bW A2 ar c2] [bV fn,bW PA ps pd,bU fo,bU fm,bV fu,bV fq,bW FB fk fc] v7 acc wr)∧Hid (acc.length=k∧∀ z∈acc,pO z)∧Hid (sM ps args ar []=sM ps args (ar.drop k) acc)) (fun _ s24 _=>ar.length - (intOf s24).toNat);(case atStart=>exact⟨0,_,[],aaG _,rfl,rfl,AO,aa ⟨rfl,fun z hz=>by simp at hz⟩,aa (by rw[List.drop_zero])⟩);clear AO;obtain⟨k,v,acc,hk,rfl,rfl,AO,gX,HA⟩:=hrel;by_cases hlt:k<ar.length
   ·obtain⟨bl,o,cs,hA,_,hbl,ey,CL⟩:=HI.o.get hlt;subst hA;have cT:∀ i v,cs[i]? =some v→b_ wr bl (o+k*5+i) v:=fun i v h=>(AO.o.low.cell (p:=bY bl (o+k*5+i)) hbl).trans (CL i v h);clear CL;have hsub:=HSub.o _ (aan hlt);have hdr:=List.drop_eq_getElem_cons hlt;have WB:=S4.o _ hsub.2;have vB:=aa (fun W (hb:Below w w W)=>ih _ hsub.2 hsub.1 W cs (ey.keep (cB.cA hb)) (aaC hB0 hb.size) (HSP.o.bZ hb) (HSA.o.bZ hb));rw[hdr,yo]at HA;obtain⟨eU,yn,eV,eW,A3,c3,yr,qX,hes,_⟩:=cH.parts ey;generalize ar[k]=y at vB HA WB;subst hes;have g0:b_ wr bl (o+k*5) (bU eU):=cT 0 _ rfl;have g1:b_ wr bl (o+k*5+1) (bU yn):=cT 1 _ rfl;have g2:b_ wr bl (o+k*5+2) (bV eV):=cT 2 _ rfl;have g3:b_ wr bl (o+k*5+3) (bV eW):=cT 3 _ rfl;have g4:b_ wr bl (o+k*5+4) (bW A3 yr c3):=cT 4 _ rfl;have z1:=AO.o.b1.cell;have hsz:=AO.o.size;have hp1:w.heap.size+1<wr:=af;generalize lp ps args y=z at vB HA WB;clear cT hsub hdr ey qX ih;have fL:Below wr wr (wr.alloc (.cells #[bU eU,bU yn,bV eV,bV eW,bW A3 yr c3] 47)):=cS _;have HIH1:=aa (vB.o _ (AO.o.low.trans (fL.mono AO.o.low.size)));have ZO:=aa (AO.o.bZ fL);have hown:∀ g,v.ownBlock=some g→w.heap.size+1+1+1≤g∧g<wr.heap.size:=fun g e=>AO.o.own.lt g e;have Pn:=aa hown;clear fL AO vB hown;go_wp2_with fail;refine HIH1.o.mono ?_;rintro e w5 ⟨cz,rfl,hz,ew⟩;obtain⟨es,e,hie⟩:=hz;obtain⟨kj,zn,ko,kq,A4,c4,zr,zS,hes,_⟩:=hie.parts;have HX:=aa hie;subst hes e;obtain⟨zx,zN,zL,zF⟩:=z;have IX:(wr.alloc (.cells #[bU eU,bU yn,bV eV,bV eW,bW A3 yr c3] 47)).heap.size=wr.heap.size+1:=ai;rw[IX]at HX;have WC:=aa (ZO.o.bZ ew);have WD:zx= .mk kj zn ko kq zr:=zS;have HYO:=aa WB;clear ew ZO HIH1 IX g0 g1 g2 g3 g4 z1 hie WB;have hs5:=WC.o.size;cases zF with
    |true=>
     have WE:=aa (WC.o.bZ (cS (.cells #[.int .i64 kj,.int .i64 zn,bV ko,bV kq,bW A4 zr c4,.int .i64 zN,.int .i64 zL,.bool true] 176)));obtain⟨wF,qw,qx,kF,pQ⟩:=CK WE.o.b2 rfl (.int .i64 kj) (.int .i64 zn) (bV ko) (bV kq) (bW A4 zr c4) (.int .i64 zN) (.int .i64 zL) (.bool true);have zF:=qx.cell;have HE:=aa (show pP (fun b=>S0 b) (lp ps args (.mk op n un nm ar)) w (.returned (.agg #[.int .i64 kj,.int .i64 zn,bV ko,bV kq,bW A4 zr c4,.int .i64 zN,.int .i64 zL,.bool true])) wF by
      rw[HW.o,HA.o,if_pos rfl];have hk:cB (fun b=>S0 b∨wr.heap.size+1≤b) w5 wF:=(cB.cA (cS _)).trans ⟨kF.1,fun b hb h=>kF.2 b hb (by rcases h with h|h;have:=hS0 b h;omega;omega)⟩;exact⟨_,rfl,⟨[_,_,_,_,_],rfl,(HX.o.keep hk).mono fun b _ h=>h.elim .inl fun h=> .inr af⟩,pQ _ _ WE.o.low af⟩)
     have rT:=aa qw;have z2:=WE.o.b2.cell;have f2:=WE.o.b2.frozen;clear qw qx kF pQ HX HA HW zS WD;go_wp2_with fail;rw[← rT.o];exact bodyPost_ret (by simp[results,results151,go_sem,zF]) rfl (HP.o _ _ HE.o)
    |false=>
     have rS:=aa (show sM ps args ar []=sM ps args (ar.drop (k+1)) (acc++[⟨zx,zN,zL,false⟩])from HA.o);have WE:=aa (WC.o.bZ (cS (.cells #[bU kj,bU zn,bV ko,bV kq,bW A4 zr c4,bU zN,bU zL,.bool false] 176)));have hs6:=WE.o.size;have EO:Hid (eT.is (w5.alloc (.cells #[bU kj,bU zn,bV ko,bV kq,bW A4 zr c4,bU zN,bU zL,.bool false] 176)) (fun b=>(S0 b∨w.heap.size+1+1+1≤b)∧some b≠v.ownBlock) [bU kj,bU zn,bV ko,bV kq,bW A4 zr c4,bU zN,bU zL,.bool false] ⟨zx,zN,zL,false⟩):=
      aa ⟨[_,_,_,_,_],rfl,(HX.o.mono (S':=fun b=>(S0 b∨w.heap.size+1+1+1≤b)∧some b≠v.ownBlock) fun b _ h=>⟨h.elim .inl fun h=> .inr af,fun e=>by have:=Pn.o b e.symm;rcases h with h|h;have:=hS0 b h;omega;omega⟩).keep (cB.cA (cS _))⟩
     clear HX HA zS WD;go_wp2_with (at_builtin;refine dD (R:=eT) (S:=fun b=>S0 b∨w.heap.size+1+1+1≤b) (xs:=acc) (ys:=[⟨zx,zN,zL,false⟩]) (T:=176) (t:=237) (B:=w.heap.size+1+1+1) rfl (.tmp 35) (.tmp 37) 237 rfl rfl Jb (WE.o.own.bZ (cS _)) rfl _ 1 1 rfl rfl ?hN ?hl ?hB rfl (n:=acc.length+1) rfl ?_);(case hN=>exact rU.jH (R:=eT) (cs:=[bU kj,bU zn,bV ko,bV kq,bW A4 zr c4,bU zN,bU zL,.bool false]) EO.o _ ai);(case hl=>rw[gX.o.1];omega);(case hB=>first|omega|(simp only[aaI];omega));intro A9 c9 w9 DX HG;have HP9:=aa (WE.o.more HG.o);have WG:=aa (show(acc++[(⟨zx,zN,zL,false⟩:cV)]).length=k+1∧∀ z∈acc++[(⟨zx,zN,zL,false⟩:cV)],pO z from⟨by rw[aao,gX.o.1];rfl,fun z hz=>by
      rcases aar.1 hz with hz|hz
      (·exact gX.o.2 z hz);rw[aau.1 hz];exact HYO.o⟩)
     clear HG WE EO WC gX HYO;go_wp2;go_roundw;exact⟨k+1,_,_,by omega,rfl,rfl,HP9,WG,rS⟩;simp[intOf];omega
   (obtain rfl:k=ar.length:=by omega);have HW2:=aa (show lp ps args (.mk op n un nm ar)=tY op n un nm 1 1 [] acc by rw[HW.o,HA.o,List.drop_length];rfl);obtain⟨Av,cv,hv,_,_⟩:=AO.o.own.slice;subst hv;have hs:=AO.o.size;have HJ:=aa (EN (fun b=>S0 b∨w.heap.size+1+1+1≤b) op n un nm A2 ar.length c2 Av cv acc wr (AO.o.own.sq fun b _ h=> .inr h) (by rw[gX.o.1];omega) gX.o.2);have z0:=AO.o.b0.cell;clear HA HW;go_wp2_with fail;refine HJ.o.mono ?_;rintro e w5 ⟨cz,rfl,hz,ew⟩;generalize tY op n un nm 1 1 [] acc=z at hz HW2;obtain⟨es,e,hie⟩:=hz;obtain⟨kj,zn,ko,kq,A4,c4,zr,zS,hes,_⟩:=hie.parts;have HX:=aa hie;subst hes e;obtain⟨zx,zN,zL,zF⟩:=z;have WC:=aa (AO.o.bZ ew);obtain⟨wF,qw,qx,kF,pQ⟩:=CK WC.o.b2 rfl (.int .i64 kj) (.int .i64 zn) (bV ko) (bV kq) (bW A4 zr c4) (.int .i64 zN) (.int .i64 zL) (.bool zF);have zz:=qx.cell;have HE:=aa (show pP (fun b=>S0 b) (lp ps args (.mk op n un nm ar)) w (.returned (.agg #[.int .i64 kj,.int .i64 zn,bV ko,bV kq,bW A4 zr c4,.int .i64 zN,.int .i64 zL,.bool zF])) wF by
    rw[HW2.o];have hk:cB (fun b=>(S0 b∨w.heap.size+1+1+1≤b)∨wr.heap.size≤b) w5 wF:=⟨kF.1,fun b hb h=>kF.2 b hb (by rcases h with(h|h)|h;have:=hS0 b h;omega;omega;omega)⟩;exact⟨_,rfl,⟨[_,_,_,_,_],rfl,(HX.o.keep hk).mono fun b _ h=>h.elim (fun h=>h.elim .inl fun h=> .inr af) fun h=> .inr af⟩,pQ _ _ WC.o.low af⟩)
   have rT:=aa qw;have z2:=WC.o.b2.cell;have f2:=WC.o.b2.frozen;clear qw qx kF pQ HX HW2 zS z0;go_wp2_with fail;rw[← rT.o];exact bodyPost_ret (by simp[results,results151,go_sem,zz]) rfl (HP.o _ _ HE.o)
end
section
def Bf (x:cw) (w:World) (e:Ending) (w':World):Prop:=∃ cs,e= .returned (.agg cs.toArray)∧cH w' (fun b=>w.heap.size≤b) cs x∧Below w w w'
structure Gi (w:World) (op n:Int) (un nm:ByteArray) (v:Value) (acc:List cw) (wr:World):Prop where
 b0:cN wr w 47 [bU op,bU n,bV un,bV nm,v]
 b1:cN wr (w+1) 47 [bU 0,bU 0,bV ⟨#[]⟩,bV ⟨#[]⟩,cD]
 own:dM dh 47 (w+1+1) wr (fun b=>w.heap.size+1+1≤b) v acc
 low:Below w w wr
 size:w.heap.size+1+1≤wr
section
variable {w wr w':World} {op n:Int} {un nm:ByteArray} {v:Value} {acc:List cw}
theorem Gi.bZ (h:Gi w op n un nm v acc wr) (hb:Below wr wr w'):Gi w op n un nm v acc w':=by
 have hs:=h.size;exact⟨h.b0.bZ hb af,h.b1.bZ hb af,h.own.bZ hb,h.low.trans (hb.mono h.low.size),aaC hs hb.size⟩
theorem Gi.more {o:Obj} {w9:World} {v':Value} {ys:List cw} (h:Gi w op n un nm v acc wr) (G:Grown dh 47 (w+1+1) (wr.alloc o) (fun b=>w.heap.size+1+1≤b) v ys w9 v'):Gi w op n un nm v' ys (w9.setCell (bY w 4) v'):=by
 have hs:=h.size;have ha:(wr.alloc o).heap.size=wr.heap.size+1:=ai;have hb:=G.bZ (h.own.bZ (cS o)) af;have hz:(w9.setCell (bY w 4) v').heap.size=w9.heap.size:=bF;have hb2:=hb.size;have k:cB (fun b=>b≠w.heap.size) w9 (w9.setCell (bY w 4) v'):=kV ai;have blk:∀ {g t:Nat} {cs:List Value},g<w.heap.size+1+1→cN wr g t cs→cN w9 g t cs:=fun h1 h2=>(hb.block _ h1).trans ((heap_alloc_old _ _ af).trans h2);refine⟨(blk af h.b0).ez 4 v',(k.2 _ af af).trans (blk af h.b1),?_,?_,by rw[hz];omega⟩
 (·have hg:w9.grownBy (w9.setCell (bY w 4) v') (some w.heap.size):=⟨rfl,rfl,rfl,by rw[hz];omega,fun b hb hr=>k.2 b hb fun e=>hr (by rw[e])⟩;exact G.own.grown hg (fun r e=>by injection e with e;omega) (fun b hb e=>by injection e with e;omega));exact((h.low.alloc h.low.size o).trans (hb.mono af)).setCell (by show w.heap.size≤w;omega) _
end
theorem Je {W:World} {p t:Nat} {c0 c1 c2 c3 c4:Value} (h:cN W p t [c0,c1,c2,c3,c4]) (u0 u1 u2 u3 u4:Value):∃ wF,wF=(((((W.setCell (bY p 0) u0).setCell (bY p 1) u1).setCell (bY p 2) u2).setCell (bY p 3) u3).setCell (bY p 4) u4)∧cN wF p t [u0,u1,u2,u3,u4]∧cB (fun b=>b≠p) W wF∧∀ B w,Below B w W→B≤p→Below B w wF:=by
 refine⟨_,rfl,?_,?_,fun B w hb hp=>?_⟩
 (·exact(((((h.ez 0 _).ez 1 _).ez 2 _).ez 3 _).ez 4 _))
 (·have k:∀ {W:World} {i:Nat} {u:Value},cB (fun b=>b≠p) W (W.setCell (bY p i) u):=kV ai;exact k.trans (k.trans (k.trans (k.trans k))));(repeat refine Below.setCell ?_ (by exact hp) _);exact hb
theorem Jf (N:Nat) (hN:N≤1000000):∀ (x:cw),cE x≤N→∀ (w:World) (cs:List Value),cH w Any cs x→Calls prog 91 #[.agg cs.toArray] w (Bf x w):=by
 induction N with
 |zero=>intro x hx;have:=dB x;omega
 |succ N ih=>
  intro x hx w cs hI
  replace ih:=ih af
  generalize hP:Bf x w=P
  have HP:=aa (show ∀ e w',Bf x w e w'→P e w' from fun e w' h=>hP▸h)
  clear hP
  obtain⟨op,n,un,nm,A2,c2,ar,e1,e2,hS⟩:=cH.parts hI
  subst e1 e2
  have xH:cE (.mk op n un nm ar)=1+cR ar:=by unfold cE;rfl
  have hnl:=fZ ar
  have har:ar.length≤1000000:=by omega
  have HSub:=aa (fun y (hy:y∈ar)=>(show cE y≤N by have:=dH ar y hy;omega))
  have HI:=aa hS
  have xK:Hid (Gi w op n un nm cD [] ((w.alloc (.cells #[bU op,bU n,bV un,bV nm,cD] 47)).alloc (.cells #[bU 0,bU 0,bV ⟨#[]⟩,bV ⟨#[]⟩,cD] 47))):=by
   have a1:(w.alloc (.cells #[bU op,bU n,bV un,bV nm,cD] 47)).heap.size=w.heap.size+1:=ai;have k1:=heap_alloc_new (w.alloc (.cells #[bU op,bU n,bV un,bV nm,cD] 47)) (.cells #[bU 0,bU 0,bV ⟨#[]⟩,bV ⟨#[]⟩,cD] 47);rw[a1]at k1;exact aa ⟨(heap_alloc_old _ _ aT).trans (heap_alloc_new w _),k1,dM.qK,(cS _).alloc aT _,by rw[aaI,a1];omega⟩
  clear hI hS xH hnl hx
  go_enter func91,ntmps91
  go_upto_region 3 with fail
  generalize ((w.alloc (.cells #[bU op,bU n,bV un,bV nm,cD] 47)).alloc (.cells #[bU 0,bU 0,bV ⟨#[]⟩,bV ⟨#[]⟩,cD] 47))=w3 at xK ⊢
  go_wp2_with fail
  go_loopw [11] (fun s11 wr=>∃ (k:Nat) (v:Value) (acc:List cw),k≤ar.length∧s11=bU (k:Int)∧Hid (Gi w op n un nm v acc wr)∧Hid (acc.length=k)∧Hid (acc=ar.take k)) (fun s11 _=>ar.length - (intOf s11).toNat)
  case atStart=>exact⟨0,_,[],aaG _,rfl,xK,aa rfl,aa (by rw[List.take_zero])⟩
  case round=>
   clear xK;obtain⟨k,v,acc,hk,rfl,xK,gX,HA⟩:=hrel;by_cases hlt:k<ar.length
   (·obtain⟨bl,o,cs,hA,_,hbl,ey,CL⟩:=HI.o.get hlt;subst hA;have cT:∀ i v,cs[i]? =some v→b_ wr bl (o+k*5+i) v:=fun i v h=>(xK.o.low.cell (p:=bY bl (o+k*5+i)) hbl).trans (CL i v h);clear CL;have hsub:=HSub.o _ (aan hlt);have HIH0:=aa (fun W (hb:Below w w W)=>ih _ hsub W cs (ey.keep (cB.cA hb)));have qV:=aa (show ar.take (k+1)=ar.take k++[ar[k]]from aaz hlt);obtain⟨eU,yn,eV,eW,A3,c3,yr,qX,hes,_⟩:=cH.parts ey;generalize ar[k]=y at HIH0 qV;subst hes;have g0:b_ wr bl (o+k*5) (.int .i64 eU):=cT 0 _ rfl;have g1:b_ wr bl (o+k*5+1) (.int .i64 yn):=cT 1 _ rfl;have g2:b_ wr bl (o+k*5+2) (bV eV):=cT 2 _ rfl;have g3:b_ wr bl (o+k*5+3) (bV eW):=cT 3 _ rfl;have g4:b_ wr bl (o+k*5+4) (bW A3 yr c3):=cT 4 _ rfl;have fL:Below wr wr (wr.alloc (.cells #[.int .i64 eU,.int .i64 yn,bV eV,bV eW,bW A3 yr c3] 47)):=cS _;have ZO:=aa (xK.o.bZ fL);have HY:=aa (show cN (wr.alloc (.cells #[.int .i64 eU,.int .i64 yn,bV eV,bV eW,bW A3 yr c3] 47)) wr 47 [.int .i64 eU,.int .i64 yn,bV eV,bV eW,bW A3 yr c3]from heap_alloc_new wr _);have Pn:=aa (fun g (e:v.ownBlock=some g)=>xK.o.own.lt g e);have hsz:=xK.o.size;clear cT hsub ey qX ih fL xK;go_upto_region 6 with fail;generalize hwd:(wr.alloc (.cells #[.int .i64 eU,.int .i64 yn,bV eV,bV eW,bW A3 yr c3] 47))=wd at ZO HY ⊢;have KG:=aa (show wr.heap.size<wd by rw[← hwd];simp);have hwd1:wd.heap.size=wr.heap.size+1:=(by rw[← hwd];simp);clear hwd g0 g1 g2 g3 g4;have Pa:=aa (show Gi w op n un nm v acc wd.drew from ZO.o.bZ dV.jq);have vB:=aa (HIH0.o wd.drew Pa.o.low);have KG:=aa (show wr.heap.size<wd.drew.heap.size from KG.o);have HY:=aa (fun j=>(HY.o.cell j:wd.cell? (bY wr j)=_));have HNw:=aa (fun(w3:World) (cz:List Value) (h:cH w3 (fun b=>wd.drew.heap.size≤b) cz y) (e:dh.k=5)=>(rU.jH (R:=dh) (cs:=cz) h 47 rfl).mono fun b hb h=>(⟨by have:wd.heap.size≤b:=h;omega,fun e=>by have:=(Pn.o b e.symm).2;have:wd.heap.size≤b:=h;omega⟩:(w.heap.size+1+1≤b)∧some b≠v.ownBlock));have yS:b_ wd w 4 v∧∀ j,wd.cell? (bY wr j)=([.int .i64 eU,.int .i64 yn,bV eV,bV eW,bW A3 yr c3]:List Value)[j]? :=⟨ZO.o.b0.cell 4,HY.o⟩;refine dz (S:=fun w'=>b_ w' w 4 v∧∀ j,w'.cell? (bY wr j)=([.int .i64 eU,.int .i64 yn,bV eV,bV eW,bW A3 yr c3]:List Value)[j]?) [0,2,1,6] [(0,false),(2,false),(1,false),(3,true),(4,true),(5,true),(6,false),(7,true)] ah ah au rfl ah (yS) ?_;(iterate 3 refine hwr ?_);refine hwt fun K hK=>?_;go_simp;refine(vB.o).mono ?_;rintro e w3 ⟨cz,rfl,hz,hb3⟩;obtain⟨kj,zn,ko,kq,A4,c4,zr,zS,hes,_⟩:=cH.parts hz;subst hes;have HX3:=aa hz;have LW:=aa (Pa.o.bZ hb3);have eE:=aa hb3;clear hz hb3 zS;refine hK.o _ _ (⟨LW.o.b0.cell 4,fun j=>(eE.o.cell (p:=bY wr j) (by exact KG.o)).trans (HY.o j)⟩) ?_;clear hK K;refine hwt fun K hK=>?_;go_simp;refine hK.o _ _ (⟨(LW.o.bZ (cS _)).b0.cell 4,fun j=>((aaf w3 w3).alloc aac _ |>.cell (p:=bY wr j) (by have:=eE.o.size;have:=KG.o;show wr.heap.size<_;omega)).trans ((eE.o.cell (p:=bY wr j) (by exact KG.o)).trans (HY.o j))⟩) ?_;clear hK K;refine hwt fun K hK=>?_;refine kG (R:=dh) (S:=fun b=>w.heap.size+1+1≤b) (xs:=acc) (ys:=[y]) (T:=47) (t:=45) (B:=w.heap.size+1+1) rfl (.tmp 16) (.tmp 19) _ rfl rfl N0 (LW.o.own.bZ (cS _)) rfl _ 1 1 rfl rfl (HNw.o w3 _ HX3.o rfl) (by rw[gX.o];omega) (by have:=LW.o.size;rw[aaI];omega) rfl (n:=acc.length+1) rfl ?_;intro A9 c9 w9 DX HG;have HP9:=aa (LW.o.more HG.o);have lW:=HG.o.bZ (LW.o.own.bZ (cS _)) (by have:=LW.o.size;rw[aaI];omega);have k9:cN w9 w 47 [.int .i64 op,.int .i64 n,bV un,bV nm,v]:=(lW.block _ af).trans ((heap_alloc_old _ _ (by have:=LW.o.size;omega)).trans LW.o.b0);have f9:=k9.frozen;have cc9:=k9.cell;refine hK.o _ _ (⟨k9.cell 4,fun j=>(World.cell?_of_block (a:=bY wr j) (HG.o.turn.block _ (by have:=eE.o.size;have:=KG.o;rw[aaI];show wr.heap.size<_;omega) (fun e=>absurd (Pn.o wr e.symm).2 (Nat.lt_irrefl _)))).trans (((aaf w3 w3).alloc aac _ |>.cell (p:=bY wr j) (by have:=eE.o.size;have:=KG.o;show wr.heap.size<_;omega)).trans ((eE.o.cell (p:=bY wr j) (by exact KG.o)).trans (HY.o j)))⟩) ?_;clear hK K;refine hwr ?_;refine xJ fun K hK=>?_;go_simp;refine hK.o _ _ ?_;clear hK K;refine fA ?_;(try go_frame);have WG:=aa (show(acc++[y]).length=k+1 by rw[aao,gX.o];rfl);have Zt:=aa (show acc++[y]=ar.take (k+1) by rw[qV.o,HA.o]);clear Pa vB LW eE HX3 lW k9 f9 cc9 HG HY HNw yS ZO;go_wp2;go_roundw;exact⟨k+1,_,acc++[y],by omega,rfl,HP9,WG,Zt⟩;simp[intOf];omega);(obtain rfl:k=ar.length:=by omega);rw[List.take_length]at HA;have hac:=HA.o;subst hac;obtain⟨Av,cv,hv,_,_⟩:=xK.o.own.slice;subst hv;have hs:=xK.o.size;obtain⟨wF,qw,qx,kF,pQ⟩:=Je xK.o.b1 (.int .i64 op) (.int .i64 n) (bV un) (bV nm) (bW Av acc cv);have HE:=aa (show Bf (.mk op n un nm acc) w (.returned (.agg #[.int .i64 op,.int .i64 n,bV un,bV nm,bW Av acc cv])) wF by
    have hq:Sq dh wr (fun b=>w.heap.size+1+1≤b) Av acc:=xK.o.own.sq fun b _ h=>h;have hk:cB (fun b=>w.heap.size+1+1≤b) wr wF:=⟨kF.1,fun b hb h=>kF.2 b hb af⟩;exact⟨_,rfl,.of ((hq.keep hk).mono fun b _ h=>by omega),pQ _ _ xK.o.low af⟩)
   have z0:=xK.o.b0.cell;have z1:=xK.o.b1.cell;have f1:=xK.o.b1.frozen;have zz:=qx.cell;have rT:=aa qw;have hp1:w.heap.size+1<wr:=af;clear qw qx kF pQ HA HI;go_wp2_with fail;rw[← rT.o];exact bodyPost_ret (by simp[results,results91,go_sem,zz]) rfl (HP.o _ _ HE.o)
end
section
mutual
def eC (G:Nat→cV) (fs:List cK):cw→cV
 | .mk op n un nm l=>
  if op=3 then
   (if(G (findF fs nm).toNat).full then kH
    else match fs[(findF fs nm).toNat]? with
     |some f=>lp f.params (j5 G fs l) (G (findF fs nm).toNat).x
     |none=>kH)
  else tY op n un nm 1 1 [] (j5 G fs l)
def j5 (G:Nat→cV) (fs:List cK):List cw→List cV
 |[]=>[]
 |y :: l=>eC G fs y :: j5 G fs l
end
theorem iZ {G:Nat→cV} {fs:List cK}:∀ l:List cw,j5 G fs l=l.map (eC G fs)
 |[]=>by unfold j5;rfl
 |y :: l=>by unfold j5;rw[iZ l];rfl
theorem qY {G G':Nat→cV} {fs:List cK} (N:Nat):∀ (x:cw),cE x≤N→(∀ j∈fS fs x,G j=G' j)→eC G fs x=eC G' fs x:=by
 induction N with
 |zero=>intro x hx;have:=dB x;omega
 |succ N ih=>
  intro x hx h;cases x with
  |mk op n u nm l=>
   have xH:cE (.mk op n u nm l)=1+cR l:=aM;have hl:j5 G fs l=j5 G' fs l:=by
    rw[iZ,iZ];exact List.map_congr_left fun y hy=>ih y aN fun j hj=>h j (by unfold fS;exact List.mem_append_right _ (ym hy hj))
   unfold eC;by_cases ho:op=3
   (·rw[if_pos ho,if_pos ho,hl,h _ (by unfold fS;rw[if_pos ho];simp)]);rw[if_neg ho,if_neg ho,hl]
def S5 (fs:List cK) (G:Nat→cV):Prop:=∀ (i:Nat) (f:cK),fs[i]? =some f→G i=eC G fs f.body
def oB (fs:List cK):Nat→Nat→cV
 |0,_=>kH
 |k+1,i=>match fs[i]? with
  |some f=>eC (oB fs k) fs f.body
  |none=>kH
def yt (fs:List cK) (r:Nat→Nat):Prop:=∀ (i:Nat) (f:cK),fs[i]? =some f→∀ j∈fS fs f.body,r j<r i
theorem Gj {fs:List cK} {r:Nat→Nat} (hr:yt fs r) (n:Nat):∀ (i k m:Nat),r i<n→r i<k→r i<m→oB fs k i=oB fs m i:=by
 induction n with
 |zero=>intro i k m h;omega
 |succ n ih=>
  intro i k m h1 h2 h3;obtain⟨k,rfl⟩:∃ k',k=k'+1:=⟨k - 1,by omega⟩;obtain⟨m,rfl⟩:∃ m',m=m'+1:=⟨m - 1,by omega⟩;unfold oB;cases hf:fs[i]? with
  |none=>rfl
  |some f=>
   refine qY _ f.body aac fun j hj=>?_;have:=hr i f hf j hj;exact ih j k m af af af
theorem Jg {fs:List cK} {r:Nat→Nat} (hr:yt fs r):∃ G,S5 fs G:=by
 refine⟨fun i=>oB fs (r i+1) i,fun i f hf=>?_⟩;show oB fs (r i+1) i=_;(conv=>lhs;unfold oB);rw[hf];refine qY _ f.body aac fun j hj=>?_;have:=hr i f hf j hj;exact Gj hr (r j+1) j _ _ af af af
theorem S6 {fs:List cK} (hb:I7 fs) (h:Gg fs=false):∃ r,yt fs r:=by
 have h0:qW fs (aaw fs.length 0):=by
  have hz:∀ i,(aaw fs.length (0:Int)).getD i 0=0:=fun i=>by
   rw[aam,List.getElem?_replicate];split<;>rfl
  exact⟨by simp,fun i=> .inl (hz i),fun _=>0,fun i f h2=>by rw[hz]at h2;exact absurd h2 ak⟩
 have hw:=EL (fs:=fs) (z:=fs.length) (p:=fun st i=>DW fs (fs.length+1) st i) (D:=fun i=>[i]) (aav fs.length) (fun i hi s hs hz hn=>by
  obtain⟨h1,h2⟩:=SY hb (fs.length+1) s i (List.mem_range.1 hi) hs af hn;exact⟨h1,(EJ fs s.length _ _ s _ ⟨rfl,hz⟩).2,fun j hj=>by rw[aau.1 hj];exact h2⟩) _ h0 (aaC List.countP_le_length ai) h
 obtain⟨⟨w1,_,_⟩,_,w4⟩:=hw;obtain⟨r,hr⟩:=w1.Ph;refine⟨r,fun i f hf j hj=>(hr i f (w4 i (List.mem_range.2 (List.getElem?_eq_some_iff.1 hf).1) i ai) hf j hj).2⟩
def EP (y:cV):Prop:=y.full=false→(cE y.x:Int)=y.nodes
theorem qZ:∀ (a b:List cw),cR (a++b)=cR a+cR b
 |[],b=>by simp[cR]
 |x :: a,b=>by simp only[List.cons_append,cR,qZ a b];omega
theorem Gk {op n:Int} {un nm:ByteArray}:∀ (l:List cV) (a b:Int) (acc:List cw),(1+cR acc:Int)=a→(∀ y∈l,EP y)→EP (tY op n un nm a b acc l)
 |[],a,b,acc,h,_=>fun _=>by
  show((cE (.mk op n un nm acc):Nat):Int)=a;rw[← h];unfold cE;omega
 |y :: l,a,b,acc,h,hy=>by
  unfold tY;split
  (·intro hf;cases hf);next hc=>
  have hyf:y.full=false:=(by cases hf:y.full<;>simp_all);have h1:=hy y ai hyf;exact Gk l _ _ _ (by rw[qZ];simp only[cR];omega) fun z hz=>hy z (by simp[hz])
theorem Po:EP kH:=fun h=>by cases h
theorem CM {ps:List eR} {args:List cV} {Q:cV→Prop}:∀ (l:List cw) (acc:List cV),(∀ y∈l,Q (lp ps args y))→(∀ z∈acc,Q z)→match sM ps args l acc with| .inl z=>Q z| .inr r=>∀ z∈r,Q z
 |[],acc,_,h=>by unfold sM;exact h
 |y :: l,acc,hy,h=>by
  rw[yo];by_cases hf:(lp ps args y).full=true
  (·rw[if_pos hf];exact hy y ai);rw[if_neg hf];exact CM l _ (fun z hz=>hy z (by simp[hz])) fun z hz=>by
   rcases aar.1 hz with hz|hz
   (·exact h z hz);rw[aau.1 hz];exact hy y ai
theorem S7 {ps:List eR} {args:List cV} {Q:cV→Prop} (hfull:Q kH) (ha:∀ y∈args,Q y) (hj:∀ (op n:Int) (un nm:ByteArray) (r:List cV),¬op=1→(∀ z∈r,Q z)→Q (tY op n un nm 1 1 [] r)) (N:Nat):∀ (x:cw),cE x≤N→Q (lp ps args x):=by
 induction N with
 |zero=>intro x hx;have:=dB x;omega
 |succ N ih=>
  intro x hx;cases x with
  |mk op n u nm l=>
   have hn:cE (.mk op n u nm l)=1+cR l:=aM;by_cases h:op=1
   ·subst h;rw[tZ];by_cases hj:(mY ps nm).toNat<args.length
    (·rw[aam,List.getElem?_eq_getElem hj];exact ha _ (aan hj));rw[aam,List.getElem?_eq_none af];exact hfull
   rw[Be h];have h2:=CM (Q:=Q) (ps:=ps) (args:=args) l [] (fun y hy=>ih y aN) (fun z hz=>by simp at hz);cases hp:sM ps args l []with
   |inl z=>rw[hp]at h2;exact h2
   |inr r=>rw[hp]at h2;exact hj op n u nm r h h2
theorem wH {G:Nat→cV} {fs:List cK} {Q:cV→Prop} {ok:cw→Prop} (hok:∀ op n u nm l,ok (.mk op n u nm l)→∀ y∈l,ok y) (hfull:Q kH) (hj:∀ (op n:Int) (un nm:ByteArray) (r:List cV),¬op=1→(∀ z∈r,Q z)→Q (tY op n un nm 1 1 [] r)) (hj1:∀ (n:Int) (un nm:ByteArray) (l:List cw) (r:List cV),ok (.mk 1 n un nm l)→(∀ z∈r,Q z)→Q (tY 1 n un nm 1 1 [] r)) (N:Nat):∀ (x:cw),cE x≤N→ok x→Q (eC G fs x):=by
 induction N with
 |zero=>intro x hx;have:=dB x;omega
 |succ N ih=>
  intro x hx ho;cases x with
  |mk op n u nm l=>
   have hn:cE (.mk op n u nm l)=1+cR l:=aM;have hl:∀ z∈j5 G fs l,Q z:=fun z hz=>by
    rw[iZ]at hz;obtain⟨y,hy,rfl⟩:=aat.1 hz;exact ih y aN (hok _ _ _ _ _ ho y hy)
   unfold eC;by_cases h3:op=3
   ·rw[if_pos h3];split
    (·exact hfull);split
    (·exact S7 hfull hl hj _ _ aac);exact hfull
   rw[if_neg h3];by_cases h1:op=1
   (·subst h1;exact hj1 n u nm l _ ho hl);exact hj op n u nm _ h1 hl
theorem t_ {G:Nat→cV} {fs:List cK} (x:cw):pO (eC G fs x):=
 wH (Q:=pO) (ok:=fun _=>True) (fun _ _ _ _ _ _ _ _=>trivial) Ja (fun _ _ _ _ r _ h=>Gh r 1 1 [] ak ak ak ak h) (fun _ _ _ _ r _ h=>Gh r 1 1 [] ak ak ak ak h) _ x aac trivial
theorem wI {G:Nat→cV} {fs:List cK} (x:cw):EP (eC G fs x):=
 wH (Q:=EP) (ok:=fun _=>True) (fun _ _ _ _ _ _ _ _=>trivial) Po (fun _ _ _ _ r _ h=>Gk r 1 1 [] rfl h) (fun _ _ _ _ r _ h=>Gk r 1 1 [] rfl h) _ x aac trivial
theorem mG {p:cw→Bool} {op n:Int} {u nm:ByteArray} {l:List cw} (h1:p (.mk op n u nm l)=false) (h2:∀ y∈l,dy p y=false):dy p (.mk op n u nm l)=false:=by
 rw[lI,h1,Bool.false_or];(exact List.any_eq_false.2 fun y hy=>by rw[h2 y hy];simp)
theorem yu {ps:List eR} {op n:Int} {un nm:ByteArray} (h:∀ l,iU ps (.mk op n un nm l)=false):∀ (l:List cV) (a b:Int) (acc:List cw),(∀ y∈acc,dy (iU ps) y=false)→(∀ y∈l,dy (iU ps) y.x=false)→dy (iU ps) (tY op n un nm a b acc l).x=false
 |[],a,b,acc,ha,_=>mG (h _) ha
 |y :: l,a,b,acc,ha,hy=>by
  unfold tY;split
  (·(exact mG rfl fun y hy=>by simp at hy));exact yu h l _ _ _ (fun z hz=>by
   rcases aar.1 hz with hz|hz
   (·exact ha z hz);rw[aau.1 hz];exact hy y ai) fun z hz=>hy z (by simp[hz])
theorem L6 {G:Nat→cV} {fs:List cK} {ps:List eR} (x:cw) (h:dy (iU ps) x=false):dy (iU ps) (eC G fs x).x=false:=
 wH (Q:=fun y=>dy (iU ps) y.x=false) (ok:=fun x=>dy (iU ps) x=false) (fun op n u nm l h y hy=>iY h (by exact hy)) (mG rfl fun y hy=>by simp at hy)
  (fun op n un nm r h1 hr=>yu (fun l=>by show(op==1&&_)=false;rw[show(op==1)=false by simpa using h1];rfl) r 1 1 [] (fun y hy=>by simp at hy) hr)
  (fun n un nm l r ho hr=>yu (fun l'=>(ia ho:iU ps (.mk 1 n un nm l)=false)) r 1 1 [] (fun y hy=>by simp at hy) hr) _ x aac h
end
end
section
open Go Go.RowKit Go.Maps
section
def CN (k:Int):Go.Lit:=Lit.int .i64 k
theorem Gl {k k':Int} (h:k'≠k):CN k'≠CN k:=fun e=>h (by
 unfold CN at e;injection e)
theorem S9 (k:Int):WideAt.IsKeyLit (CN k):=by unfold CN;simp[WideAt.IsKeyLit]
def jc (w:World) (g n:Nat) (f:Int→Option Value):Prop:=
 ∃ D:DataW Value,w.ownsMap prog 3 kR g n D∧IsMap D∧∀ k:Int,Maps.has D (CN k)=(f k).isSome∧(∀ v z,f k=some v→D.atKey (CN k) z= .held v)∧(∀ z,f k=none→D.atKey (CN k) z=z)
theorem Bh:Keyed prog 3:=int_keyed underlying3
section
variable {w w':World} {g n:Nat} {f:Int→Option Value}
theorem jc.made (w:World):jc (w.alloc (.map #[] 0)) w 0 (fun _=>none):=
 ⟨.map [],World.ownsMap_made w _ _ _,⟨[],rfl⟩,fun k=>⟨rfl,fun v z h=>(by cases h),fun z _=>rfl⟩⟩
theorem jc.lt (h:jc w g n f):g<w.heap.size:=by
 obtain⟨D,h1,_⟩:=h;exact h1.lt
theorem jc.bZ {B:Nat} (h:jc w g n f) (hb:Below B w w') (hg:g<B):jc w' g n f:=by
 obtain⟨D,⟨es,clock,hbk,F,hs,hD⟩,h2,h3⟩:=h;exact⟨D,⟨es,clock,(hb.block g hg).trans hbk,F,hs,hD⟩,h2,h3⟩
theorem jc.alloc (h:jc w g n f) (o:Obj):jc (w.alloc o) g n f:=h.bZ (cS _) h.lt
theorem jc.drewN (h:jc w g n f) (k:Nat):jc (w.drewN k) g n f:=h
theorem jc.drew (h:jc w g n f):jc w.drew g n f:=h
theorem jc.cF {p:Addr} (h:jc w g n f) (hp:g≠p.block) (u:Value):jc (w.setCell p u) g n f:=by
 obtain⟨D,⟨es,clock,hbk,F,hs,hD⟩,h2,h3⟩:=h;exact⟨D,⟨es,clock,(Below.heap_setCell w p u g hp).trans hbk,F,hs,hD⟩,h2,h3⟩
theorem jc.mono {m:Nat} (h:jc w g n f) (hm:n≤m):jc w g m f:=by
 obtain⟨D,h1,h2⟩:=h;exact⟨D,h1.mono hm,h2⟩
end
section
variable (w:World) {ops:Array Oper} {rest:List Oper} {o:Oper} {a:Act} {Q:Exit→Act→World→Prop}
theorem wJ (hg:o.guard=none) (m x:Operand) (t:TypeId) (hop:o.op=Op.lookup t m x true) (e:TypeId) (ht:Tryz.prog.underlying t=some (.map 3 e)) {z:Value} (hz:(zeroValue e).run prog w= .ok z w) (b n:Nat) (f:Int→Option Value) (hm:a.eval m= .map (some b)) (hown:jc w b n f) (k:Int) (hx:a.eval x=bU k) (hk:(Lit.int .i64 k).wf=true) (u:Value) (hf:f k=some u) (hK:wpList prog ops Q rest (a.put o.dst (.tuple #[u,.bool true])) w):wpList prog ops Q (o :: rest) a w:=by
 obtain⟨D,h1,h2,h3⟩:=hown;obtain⟨p1,p2,p3⟩:=h3 k;refine wpList_lookup_own_ok w hg m x t hop 3 e Bh ht kR hz (.held z) [] rfl b n D hm h1 (bU k) (CN k) hx (keyOf_int_mk underlying3 hk) (fun v ps hv=>?_);rw[p2 u _ hf]at hv;rw[p1,hf];injection hv with hv;injection hv with hv _;injection hv with hv;subst hv;exact hK
theorem wK (hg:o.guard=none) (m x:Operand) (t:TypeId) (hop:o.op=Op.lookup t m x true) (e:TypeId) (ht:Tryz.prog.underlying t=some (.map 3 e)) {z:Value} (hz:(zeroValue e).run prog w= .ok z w) (b n:Nat) (f:Int→Option Value) (hm:a.eval m= .map (some b)) (hown:jc w b n f) (k:Int) (hx:a.eval x=bU k) (hk:(Lit.int .i64 k).wf=true) (hf:f k=none) (hK:wpList prog ops Q rest (a.put o.dst (.tuple #[z,.bool false])) w):wpList prog ops Q (o :: rest) a w:=by
 obtain⟨D,h1,h2,h3⟩:=hown;obtain⟨p1,p2,p3⟩:=h3 k;refine wpList_lookup_own_ok w hg m x t hop 3 e Bh ht kR hz (.held z) [] rfl b n D hm h1 (bU k) (CN k) hx (keyOf_int_mk underlying3 hk) (fun v ps hv=>?_);rw[p3 _ hf]at hv;rw[p1,hf];injection hv with hv;injection hv with hv _;injection hv with hv;subst hv;exact hK
theorem qy (hg:o.guard=none) (m x v:Operand) (t:TypeId) (hop:o.op=Op.mapUpdate t m x v) (e:TypeId) (ht:Tryz.prog.underlying t=some (.map 3 e)) (b n:Nat) (f:Int→Option Value) (hm:a.eval m= .map (some b)) (hown:jc w b n f) (hn:n<maxLen) (k:Int) (u:Value) (hx:a.eval x=bU k) (hv:a.eval v=u) (hk:(Lit.int .i64 k).wf=true) (hK:∀ w',jc w' b (n+1) (fun k'=>if k'=k then some u else f k')→w.grownBy w' (some b)→wpList prog ops Q rest (a.put o.dst undef) w'):wpList prog ops Q (o :: rest) a w:=by
 obtain⟨D,h1,h2,h3⟩:=hown;refine wpList_mapUpdate_own w hg m x v t hop 3 e Bh ht kR b n D hm h1 hn (bU k) u (CN k) hx hv (keyOf_int_mk underlying3 hk) (.held u) [] rfl (fun w' k1 k2=>hK w' ⟨_,k1,?_,fun k'=>?_⟩ k2)
 (·obtain⟨es,rfl⟩:=h2;exact⟨_,rfl⟩);by_cases hkk:k'=k
 ·subst hkk;simp only[if_true];refine⟨has_put_same h2 (S9 k') _,fun v z h=>?_,fun z h=>?_⟩
  (·have hv:u=v:=Option.some.inj h;rw[← hv];exact atKey_put_same h2 (S9 k') _ _);exact absurd h ai
 simp only[if_neg hkk];obtain⟨p1,p2,p3⟩:=h3 k';exact⟨(has_put_other (Gl hkk) _).trans p1,fun v z h=>(atKey_put_other (Gl hkk) _ _).trans (p2 v z h),fun z h=>(atKey_put_other (Gl hkk) _ _).trans (p3 z h)⟩
end
end
end
section
open Go Go.RowKit Bg Go.Proofs Sh Kb
section
def ER (n:Nat) (f:Int→Option Value):Nat:=(aav n).countP fun i:Nat=>(f (i:Int)).isNone
theorem Pp {n:Nat} {f:Int→Option Value} {i:Nat} {u:Value} (hi:i<n) (h:f i=none):ER n (fun k=>if k=(i:Int)then some u else f k)+1≤ER n f:=by
 unfold ER;have h1:∀ m,(aav m).countP (fun j:Nat=>((fun k=>if k=(i:Int)then some u else f k) (j:Int)).isNone)+(if i<m then 1 else 0)≤(aav m).countP fun j:Nat=>(f (j:Int)).isNone:=by
  intro m;induction m with
  |zero=>simp
  |succ m ih=>
   rw[List.range_succ,List.countP_append,List.countP_append];simp only[List.countP_cons,List.countP_nil];by_cases hm:m=i
   (·subst hm;simp only[if_true,h,Option.isNone_none,Option.isNone_some,Nat.lt_irrefl,if_false,aaE]at ih ⊢;simp;simpa using ih);have hmi:¬(m:Int)=(i:Int):=af;have e:(if i<m+1 then 1 else 0:Nat)=if i<m then 1 else 0:=by
    by_cases h:i<m
    (·rw[if_pos h,if_pos af]);rw[if_neg h,if_neg af]
   rw[e];simp only[if_neg hmi]at ih ⊢;generalize (if i<m then 1 else 0:Nat)=t at ih ⊢;generalize (if(f (m:Int)).isNone=true then 1 else 0:Nat)=t2;omega
 have:=h1 n;rw[if_pos hi]at this;exact this
structure mH (W0:World) (pe gm:Nat) (FA:Option Addr) (fc:Nat) (fs:List cK) (G:Nat→cV) (S D:Nat→Prop) (W:World):Prop where
 lY:b_ W pe 0 (bW FA fs fc)
 zU:b_ W pe 1 (.map (some gm))
 memo:∃ n f,jc W gm n f∧n+ER fs.length f≤fs.length∧∀ (k:Int) (v:Value),f k=some v→∃ (j:Nat) (cs:List Value),k=(j:Int)∧D j∧v= .agg cs.toArray∧eT.is W S cs (G j)
 sK:pe<W.heap.size
 AL:gm<W.heap.size
 ne:pe≠gm
 sq:Sq gR W (fun b=>b≠gm) FA fs
 o:∀ b,S b→b≠gm
 low:Below gm W0 W
section
variable {W0:World} {pe gm:Nat} {FA:Option Addr} {fc:Nat} {fs:List cK} {G:Nat→cV} {S S' D D':Nat→Prop} {W W':World}
theorem mH.bZ (h:mH W0 pe gm FA fc fs G S D W) (hb:Below W W W'):mH W0 pe gm FA fc fs G S D W':=by
 obtain⟨n,f,h1,h2,h3⟩:=h.memo;exact⟨(hb.cell (p:=bY pe 0) h.sK).trans h.lY,(hb.cell (p:=bY pe 1) h.sK).trans h.zU,⟨n,f,h1.bZ hb h.AL,h2,fun k v hv=>by
  obtain⟨j,cs,a,d,b,c⟩:=h3 k v hv;exact⟨j,cs,a,d,b,eT.keep c (cB.cA hb)⟩⟩,aaD h.sK hb.size,aaD h.AL hb.size,h.ne,h.sq.bZ hb,h.o,h.low.trans (hb.mono (Nat.le_of_lt h.AL))⟩
theorem mH.mono (h:mH W0 pe gm FA fc fs G S D W) (hs:∀ b,b<W.heap.size→S b→S' b) (ho:∀ b,S' b→b≠gm) (hd:∀ j,D j→D' j):mH W0 pe gm FA fc fs G S' D' W:=by
 obtain⟨n,f,h1,h2,h3⟩:=h.memo;exact⟨h.lY,h.zU,⟨n,f,h1,h2,fun k v hv=>by
  obtain⟨j,cs,a,d,b,c⟩:=h3 k v hv;exact⟨j,cs,a,hd j d,b,eT.mono c hs⟩⟩,h.sK,h.AL,h.ne,h.sq,ho,h.low⟩
theorem mH.far (h:mH W0 pe gm FA fc fs G S D W) {p:Nat} (k:cB (fun b=>b≠p) W W') (hm:W.grownBy W' (some p)) (h1:p≠pe) (h2:p≠gm) (h3:gm<p) (h4:∀ b,S b→b≠p) (hq:Sq gR W (fun b=>b≠gm∧b≠p) FA fs) (hM:∀ n f,jc W gm n f→jc W' gm n f):mH W0 pe gm FA fc fs G S D W':=by
 obtain⟨n,f,m1,m2,m3⟩:=h.memo;exact⟨(World.cell?_of_block (a:=bY pe 0) (k.2 pe h.sK (by show pe≠p;omega))).trans h.lY,(World.cell?_of_block (a:=bY pe 1) (k.2 pe h.sK (by show pe≠p;omega))).trans h.zU,⟨n,f,hM _ _ m1,m2,fun i v hv=>by
  obtain⟨j,cs,a,d,b,c⟩:=m3 i v hv
  exact⟨j,cs,a,d,b,eT.keep c ⟨k.1,fun b hb hs=>k.2 b hb (h4 b hs)⟩⟩⟩,aaD h.sK k.1,aaD h.AL k.1,h.ne,(hq.keep ⟨k.1,fun b hb hs=>k.2 b hb hs.2⟩).mono fun b _ hs=>hs.1,h.o,
  h.low.trans ⟨hm.os,hm.tape,hm.output,k.1,fun b hb=>k.2 b (Nat.lt_trans hb h.AL) af⟩⟩
end
theorem jc.keep {w w':World} {g n:Nat} {f:Int→Option Value} (h:jc w g n f) (hb:w'.heap[g]? =w.heap[g]?):jc w' g n f:=by
 obtain⟨D,⟨es,clock,hbk,F,hs,hD⟩,h2,h3⟩:=h;exact⟨D,⟨es,clock,hb.trans hbk,F,hs,hD⟩,h2,h3⟩
section
variable {W0:World} {pe gm:Nat} {FA:Option Addr} {fc:Nat} {fs:List cK} {G:Nat→cV} {S S' D D':Nat→Prop} {W W':World}
theorem mH.put {n:Nat} {f:Int→Option Value} {i:Nat} {cs:List Value} (h:mH W0 pe gm FA fc fs G S D W) (hi:i<fs.length) (h2:n+ER fs.length f≤fs.length) (h3:∀ (k:Int) (v:Value),f k=some v→∃ (j:Nat) (cs:List Value),k=(j:Int)∧D j∧v= .agg cs.toArray∧eT.is W S cs (G j)) (h0:f i=none) (hD:D i) (hw:eT.is W S cs (G i)) (hm:jc W' gm (n+1) (fun k=>if k=(i:Int)then some (.agg cs.toArray)else f k)) (hg:W.grownBy W' (some gm)):mH W0 pe gm FA fc fs G S D W':=by
 have k:cB (fun b=>b≠gm) W W':=cB.fB hg fun b hb e=>hb bJ;have kS:cB S W W':=cB.fB hg fun b hb e=>h.o b hb bJ;refine⟨(World.cell?_of_block (a:=bY pe 0) (k.2 pe h.sK h.ne)).trans h.lY,(World.cell?_of_block (a:=bY pe 1) (k.2 pe h.sK h.ne)).trans h.zU,⟨n+1,_,hm,?_,fun a v ha=>?_⟩,aaD h.sK k.1,aaD h.AL k.1,h.ne,h.sq.keep k,h.o,
  h.low.trans ⟨hg.os,hg.tape,hg.output,k.1,fun b hb=>k.2 b (Nat.lt_trans hb h.AL) af⟩⟩
 (·have:=Pp (u:= .agg cs.toArray) hi h0;omega);by_cases ha1:a=(i:Int)
 (·simp only[if_pos ha1]at ha;injection ha with ha;exact⟨i,cs,ha1,hD,ha.symm,eT.keep hw kS⟩);simp only[if_neg ha1]at ha;obtain⟨j,c,e1,d,e2,e3⟩:=h3 a v ha;exact⟨j,c,e1,d,e2,eT.keep e3 kS⟩
end
section
variable {W0:World} {pe gm:Nat} {FA:Option Addr} {fc:Nat} {fs:List cK} {G:Nat→cV} {S D:Nat→Prop} {W W':World}
theorem mH.res (h:mH W0 pe gm FA fc fs G S D W) {p:Nat} (k:cB (fun b=>b≠p) W W') (hb:Below p W W') (h1:p≠pe) (h3:gm<p) (h4:∀ b,S b→b≠p) (hq:Sq gR W (fun b=>b≠gm∧b≠p) FA fs):mH W0 pe gm FA fc fs G S D W':=
 h.far k ⟨hb.os,hb.tape,hb.output,k.1,fun b hb hr=>k.2 b hb fun e=>hr (by rw[e])⟩ h1 af h3 h4 hq fun n f hm=>hm.keep (k.2 gm h.AL af)
end
def nH (W0:World) (pe gm:Nat) (FA:Option Addr) (fc:Nat) (fs:List cK) (G:Nat→cV) (r:Nat→Nat) (R:Nat) (S D:Nat→Prop) (z:cV) (w:World) (e:Ending) (w':World):Prop:=
 ∃ cs,e= .returned (.agg cs.toArray)∧eT.is w' (fun b=>S b∨w.heap.size≤b) cs z∧mH W0 pe gm FA fc fs G (fun b=>S b∨w.heap.size≤b) (fun j=>D j∨r j<R) w'∧cB (fun b=>b≠gm) w w'
theorem CO (w:World):(zeroValue 176).run prog w= .ok (.agg #[bU 0,bU 0,bV ⟨#[]⟩,bV ⟨#[]⟩,cD,bU 0,bU 0,.bool false]) w:=by kernel_rfl
end
theorem Pq (W0:World) (pe gm:Nat) (FA:Option Addr) (fc:Nat) (fs:List cK) (G:Nat→cV) (r:Nat→Nat) (hl:fs.length≤1000000) (i:Nat) (hi:i<fs.length) (hex:∀ (S D:Nat→Prop) (w:World) (cs:List Value),mH W0 pe gm FA fc fs G S D w→cH w (fun b=>b≠gm) cs fs[i].body→Calls prog 90 #[.pointer (bY pe 0),.agg cs.toArray] w (nH W0 pe gm FA fc fs G r (r i) S D (G i) w)) (S D:Nat→Prop) (w:World) (hE:mH W0 pe gm FA fc fs G S D w):Calls prog 150 #[.pointer (bY pe 0),bU i] w (nH W0 pe gm FA fc fs G r (r i+1) S D (G i) w):=by
 generalize hP:nH W0 pe gm FA fc fs G r (r i+1) S D (G i) w=P;have HP:=aa (show ∀ e w',nH W0 pe gm FA fc fs G r (r i+1) S D (G i) w e w'→P e w' from fun e w' h=>hP▸h);clear hP;have hE0:=hE.mono (S':=fun b=>S b∧b<w.heap.size) (D':=D) (fun b hb h=>⟨h,hb⟩) (fun b h=>hE.o b h.1) (fun _ h=>h);have hpe:=hE.sK;have IJ:=hE.AL;have c1:=hE.zU;have lz:=aa (hE.sq.mono (S':=fun b=>b≠gm∧b<w.heap.size) fun b hb h=>⟨h,hb⟩);have hwf:(Lit.int .i64 (i:Int)).wf=true:=by
  have h1:IntKind.min .i64=-9223372036854775808:=ak;have h2:IntKind.max .i64=9223372036854775807:=ak;simp[Lit.wf,h1,h2];omega
 have nY:=aa hex;have DY:=aa hE.o;have hiz:(i:Int)<(fs.length:Int):=af;obtain⟨n,f,hm,hn,hf⟩:=hE0.memo;have HM:=aa hm;have hb1:Below w w (w.alloc (.cells #[bU 0,bU 0,bV ⟨#[]⟩,bV ⟨#[]⟩,cD,bU 0,bU 0,.bool false] 176)):=cS _;have a1:(w.alloc (.cells #[bU 0,bU 0,bV ⟨#[]⟩,bV ⟨#[]⟩,cD,bU 0,bU 0,.bool false] 176)).heap.size=w.heap.size+1:=ai;have HM1:=aa (hm.bZ hb1 IJ);have Pr:=aa hE0;clear hE hE0 hm hex;cases S_:f i with
 |some v=>
  obtain⟨j,cs,hj,_,hv,hw⟩:=hf i v S_;(obtain rfl:i=j:=by omega);obtain⟨es,e,hie⟩:=hw;obtain⟨kj,zn,ko,kq,A4,c4,zr,zS,hes,_⟩:=hie.parts;have HX:=aa hie;generalize G i=z at HX zS e HP nY;subst hes e hv;obtain⟨zx,zN,zL,zF⟩:=z;have hb2:=hb1.alloc aT (.cells #[.int .i64 kj,.int .i64 zn,bV ko,bV kq,bW A4 zr c4,.int .i64 zN,.int .i64 zL,.bool zF] 176);have k0:cN ((w.alloc (.cells #[.int .i64 0,.int .i64 0,bV ⟨#[]⟩,bV ⟨#[]⟩,cD,.int .i64 0,.int .i64 0,.bool false] 176)).alloc (.cells #[.int .i64 kj,.int .i64 zn,bV ko,bV kq,bW A4 zr c4,.int .i64 zN,.int .i64 zL,.bool zF] 176)) w 176 [.int .i64 0,.int .i64 0,bV ⟨#[]⟩,bV ⟨#[]⟩,cD,.int .i64 0,.int .i64 0,.bool false]:=(heap_alloc_old _ _ aT).trans (heap_alloc_new w _);have k1:=heap_alloc_new (w.alloc (.cells #[.int .i64 0,.int .i64 0,bV ⟨#[]⟩,bV ⟨#[]⟩,cD,.int .i64 0,.int .i64 0,.bool false] 176)) (.cells #[.int .i64 kj,.int .i64 zn,bV ko,bV kq,bW A4 zr c4,.int .i64 zN,.int .i64 zL,.bool zF] 176);rw[a1]at k1;have K0:=aa k0;have K1:Hid (cN ((w.alloc (.cells #[.int .i64 0,.int .i64 0,bV ⟨#[]⟩,bV ⟨#[]⟩,cD,.int .i64 0,.int .i64 0,.bool false] 176)).alloc (.cells #[.int .i64 kj,.int .i64 zn,bV ko,bV kq,bW A4 zr c4,.int .i64 zN,.int .i64 zL,.bool zF] 176)) (w+1) 176 [.int .i64 kj,.int .i64 zn,bV ko,bV kq,bW A4 zr c4,.int .i64 zN,.int .i64 zL,.bool zF]):=aa k1;have dI:=aa hb2;clear k0 k1 hb1 hb2 a1 hf hj zS hie;go_enter func150,ntmps150;go_upto_region 2 with(at_lookup;refine wJ _ rfl _ _ _ rfl 176 underlying172 (CO _) gm n f rfl HM1.o (i:Int) rfl hwf _ S_ ?_);generalize ((w.alloc (.cells #[.int .i64 0,.int .i64 0,bV ⟨#[]⟩,bV ⟨#[]⟩,cD,.int .i64 0,.int .i64 0,.bool false] 176)).alloc (.cells #[.int .i64 kj,.int .i64 zn,bV ko,bV kq,bW A4 zr c4,.int .i64 zN,.int .i64 zL,.bool zF] 176))=w2 at K0 K1 dI ⊢;have L8:=aa (Pr.o.bZ dI.o);have hz2:=dI.o.size;have hs2:=K1.o.lt;have FM:=aa ((lz.o.mono (S':=fun b=>b≠gm∧b≠w.heap.size) fun b hb h=>⟨h.1,by omega⟩).bZ dI.o);obtain⟨wF,qw,qx,kF,pQ⟩:=CK K0.o rfl (.int .i64 kj) (.int .i64 zn) (bV ko) (bV kq) (bW A4 zr c4) (.int .i64 zN) (.int .i64 zL) (.bool zF);have zz:=qx.cell;have HE:=aa (show nH W0 pe gm FA fc fs G r (r i+1) S D ⟨zx,zN,zL,zF⟩ w (.returned (.agg #[.int .i64 kj,.int .i64 zn,bV ko,bV kq,bW A4 zr c4,.int .i64 zN,.int .i64 zL,.bool zF])) wF by
   have he:=L8.o.res kF (pQ _ _ (aaf _ _) aac) af af (fun b h=>by omega) FM.o;have hk:cB (fun b=>S b∧b<w.heap.size) w wF:=(cB.cA dI.o).trans ⟨kF.1,fun b hb h=>kF.2 b hb af⟩;exact⟨_,rfl,⟨[_,_,_,_,_],rfl,(HX.o.keep hk).mono fun b _ h=> .inl h.1⟩,he.mono (fun b _ h=> .inl h.1) (fun b h e=>by subst e;rcases h with h|h;exact absurd rfl (DY.o _ h);omega) (fun j h=> .inl h),⟨aaC dI.o.size kF.1,fun b hb h=>(kF.2 b af af).trans (dI.o.block b hb)⟩⟩)
  have z0:=K0.o.cell;have f0:=K0.o.frozen;have z1:=K1.o.cell;have rT:=aa qw;clear qw qx kF pQ HX;go_wp2_with fail;rw[← rT.o];exact bodyPost_ret (by simp[results,results150,go_sem,zz]) rfl (HP.o _ _ HE.o)
 |none=>
  obtain⟨b,o,cs,hA,Yc,hbl,ey,cT⟩:=lz.o.get hi;subst hA;have hb2:=hb1.alloc aT (.cells #[bU 0,bU 0,bV ⟨#[]⟩,bV ⟨#[]⟩,cD,bU 0,bU 0,.bool false] 176);have hE0':mH W0 pe gm (bY b o) fc fs G (fun b=>S b∧b<w.heap.size) (fun j=>¬f (j:Int)=none) w:=
   ⟨Pr.o.lY,Pr.o.zU,⟨n,f,HM.o,hn,fun k v hv=>by
    obtain⟨j,cs,e1,_,e2,e3⟩:=hf k v hv;exact⟨j,cs,e1,by rw[← e1,hv];simp,e2,e3⟩⟩,Pr.o.sK,Pr.o.AL,Pr.o.ne,Pr.o.sq,Pr.o.o,Pr.o.low⟩
  have HDom:=aa (show ∀ j:Nat,¬f (j:Int)=none→D j from fun j hj=>by
   cases hv:f (j:Int)with
   |none=>exact absurd hv hj
   |some v=>
    obtain⟨j',_,e1,d,_⟩:=hf j v hv;(obtain rfl:j=j':=by omega);exact d)
  obtain⟨FAp,d,es,e,_,hie⟩:=ey;have L8:=aa (hE0'.bZ hb2);have uy:=aa (nY.o _ _ _ _ L8.o ((hie.mono fun b _ h=>h.1).keep (cB.cA hb2)));obtain⟨bop,bn,bun,bnm,B5,c5,br,_,hes,_⟩:=hie.parts;subst hes e;have cT:∀ j v,[bV fs[i].name,bW FAp fs[i].params.length d,.int .i64 bop,.int .i64 bn,bV bun,bV bnm,bW B5 br c5][j]? =some v→((w.alloc (.cells #[.int .i64 0,.int .i64 0,bV ⟨#[]⟩,bV ⟨#[]⟩,cD,.int .i64 0,.int .i64 0,.bool false] 176)).alloc (.cells #[.int .i64 0,.int .i64 0,bV ⟨#[]⟩,bV ⟨#[]⟩,cD,.int .i64 0,.int .i64 0,.bool false] 176)).cell? (bY b (o+i*7+j))=some v:=fun j v h=>(hb2.cell (p:=bY b (o+i*7+j)) hbl).trans (cT j v h);have g2:=cT 2 _ rfl;have g3:=cT 3 _ rfl;have g4:=cT 4 _ rfl;have g5:=cT 5 _ rfl;have g6:=cT 6 _ rfl;have k1:=heap_alloc_new (w.alloc (.cells #[.int .i64 0,.int .i64 0,bV ⟨#[]⟩,bV ⟨#[]⟩,cD,.int .i64 0,.int .i64 0,.bool false] 176)) (.cells #[.int .i64 0,.int .i64 0,bV ⟨#[]⟩,bV ⟨#[]⟩,cD,.int .i64 0,.int .i64 0,.bool false] 176);rw[a1]at k1;have K0:Hid (cN ((w.alloc (.cells #[.int .i64 0,.int .i64 0,bV ⟨#[]⟩,bV ⟨#[]⟩,cD,.int .i64 0,.int .i64 0,.bool false] 176)).alloc (.cells #[.int .i64 0,.int .i64 0,bV ⟨#[]⟩,bV ⟨#[]⟩,cD,.int .i64 0,.int .i64 0,.bool false] 176)) w 176 [.int .i64 0,.int .i64 0,bV ⟨#[]⟩,bV ⟨#[]⟩,cD,.int .i64 0,.int .i64 0,.bool false]):=aa ((heap_alloc_old _ _ aT).trans (heap_alloc_new w _));have K1:Hid (cN ((w.alloc (.cells #[.int .i64 0,.int .i64 0,bV ⟨#[]⟩,bV ⟨#[]⟩,cD,.int .i64 0,.int .i64 0,.bool false] 176)).alloc (.cells #[.int .i64 0,.int .i64 0,bV ⟨#[]⟩,bV ⟨#[]⟩,cD,.int .i64 0,.int .i64 0,.bool false] 176)) (w+1) 176 [.int .i64 0,.int .i64 0,bV ⟨#[]⟩,bV ⟨#[]⟩,cD,.int .i64 0,.int .i64 0,.bool false]):=aa k1;have dI:=aa hb2;have D6:=aa (And.intro g2 (And.intro g3 (And.intro g4 (And.intro g5 g6))));clear k1 hb1 hb2 a1 hf cT hie nY hE0' g2 g3 g4 g5 g6;go_enter func150,ntmps150;go_upto_region 2 with(at_lookup;refine wK _ rfl _ _ _ rfl 176 underlying172 (CO _) gm n f rfl HM1.o (i:Int) rfl hwf S_ ?_);generalize ((w.alloc (.cells #[.int .i64 0,.int .i64 0,bV ⟨#[]⟩,bV ⟨#[]⟩,cD,.int .i64 0,.int .i64 0,.bool false] 176)).alloc (.cells #[.int .i64 0,.int .i64 0,bV ⟨#[]⟩,bV ⟨#[]⟩,cD,.int .i64 0,.int .i64 0,.bool false] 176))=w2 at K0 K1 dI L8 uy D6 ⊢;obtain⟨g2,g3,g4,g5,g6⟩:=D6.o;have c2:=L8.o.lY;have hz2:=dI.o.size;have hs2:=K1.o.lt;clear c1;go_wp2_with fail;refine uy.o.mono ?_;rintro e w3 ⟨cz,rfl,hz,hE3,hK3⟩;have ZP:=aa hz;obtain⟨es,e,hie⟩:=hz;obtain⟨kj,zn,ko,kq,A4,c4,zr,zS,hes,_⟩:=hie.parts;subst hes;subst e;have ZP:Hid (eT.is w3 (fun b=>(S b∧b<w.heap.size)∨w2.heap.size≤b) [.int .i64 kj,.int .i64 zn,bV ko,bV kq,bW A4 zr c4,.int .i64 (G i).nodes,.int .i64 (G i).levels,.bool (G i).full] (G i)):=ZP;generalize (G i).nodes=zN at ZP ⊢;generalize (G i).levels=zL at ZP ⊢;generalize (G i).full=zF at ZP ⊢;have hk3:=hK3.1;have k1:cN w3 (w+1) 176 [.int .i64 0,.int .i64 0,bV ⟨#[]⟩,bV ⟨#[]⟩,cD,.int .i64 0,.int .i64 0,.bool false]:=(hK3.2 _ hs2 af).trans K1.o;have k0:cN w3 w 176 [.int .i64 0,.int .i64 0,bV ⟨#[]⟩,bV ⟨#[]⟩,cD,.int .i64 0,.int .i64 0,.bool false]:=(hK3.2 _ af af).trans K0.o;obtain⟨w4,hw4,hk4,k4,hb4⟩:=CK k1 rfl (.int .i64 kj) (.int .i64 zn) (bV ko) (bV kq) (bW A4 zr c4) (.int .i64 zN) (.int .i64 zL) (.bool zF);have Wx:Sq gR w3 (fun b=>b≠gm∧b<w.heap.size) (bY b o) fs:=(lz.o.bZ dI.o).keep ⟨hK3.1,fun b hb h=>hK3.2 b hb h.1⟩;have hE4:=(hE3.mono (S':=fun b=>(S b∧b<w.heap.size)∨w2.heap.size≤b) (D':=fun j=>¬f (j:Int)=none∨r j<r i) (fun b _ h=>h) (fun b h=>by rcases h with h|h;exact DY.o b h.1;omega) (fun j h=>h)).res k4 (hb4 _ _ (aaf _ _) aac) af af (fun b h=>by rcases h with h|h<;>omega) (Wx.mono fun b _ h=>⟨h.1,by omega⟩);have HE4:=aa hE4;have K4:=aa hk4;have HW4:=aa (eT.keep ZP.o (⟨k4.1,fun b hb h=>k4.2 b hb (by rcases h with h|h<;>omega)⟩:cB _ w3 w4));have K0':Hid (cN w4 w 176 [.int .i64 0,.int .i64 0,bV ⟨#[]⟩,bV ⟨#[]⟩,cD,.int .i64 0,.int .i64 0,.bool false]):=aa ((k4.2 _ af af).trans k0);have L_:=aa (show cB (fun b=>b≠gm) w w4 from⟨by have:=dI.o.size;have:=k4.1;omega,fun b hb h=>(k4.2 b af af).trans ((hK3.2 b af h).trans (dI.o.block b hb))⟩);have z1:=k1.cell;have f1:=k1.frozen;have HWe:=aa hw4;have hs3:=k1.lt;clear k0 k1 hw4 hk4 k4 hb4 Wx hE4 hE3 hK3 hie zS ZP uy g2 g3 g4 g5 g6 c2;go_upto_region 4 with fail;rw[← HWe.o];clear z1 f1;obtain⟨n4,f4,hm4,hn4,Ez⟩:=HE4.o.memo;have h0:f4 (i:Int)=none:=by
   cases hv:f4 (i:Int)with
   |none=>rfl
   |some v=>
    obtain⟨j,_,e1,d,_⟩:=Ez _ _ hv;(obtain rfl:i=j:=by omega);rcases d with d|d
    (·exact absurd S_ d);omega
  have HM4:=aa hm4;have c4':=HE4.o.zU;have z4:=K4.o.cell;go_still_tail 6,ah;change wpList _ _ _ _ _ w4.drew;refine qy _ rfl (.tmp 31) (.tmp 32) (.tmp 33) _ rfl 176 underlying172 gm n4 f4 rfl HM4.o.drew aH (i:Int) (.agg #[bU kj,bU zn,bV ko,bV kq,bW A4 zr c4,bU zN,bU zL,.bool zF]) rfl rfl hwf ?_;intro w9 hm9 xZ;have hE9:=(HE4.o.mono (S':=fun b=>(S b∧b<w.heap.size)∨w2.heap.size≤b) (D':=fun j=>D j∨r j<r i+1) (fun b _ h=>h) (fun b h=>HE4.o.o b h) (fun j h=>h.elim (fun h=> .inl (HDom.o j h)) fun h=> .inr af)).bZ dV.jq;have hd4:Below w4 w4 w4.drew:=dV.jq;have hw4:=eT.keep HW4.o (cB.cA hd4);have hE:=hE9.put (cs:=[bU kj,bU zn,bV ko,bV kq,bW A4 zr c4,bU zN,bU zL,.bool zF]) hi hn4 (fun k v hv=>by
   obtain⟨j,cs,e1,d,e2,e3⟩:=Ez k v hv;exact⟨j,cs,e1,d.elim (fun h=> .inl (HDom.o j h)) (fun h=> .inr af),e2,eT.keep e3 (cB.cA hd4)⟩) h0 (.inr af) hw4 hm9 xZ
  have k9:cB (fun b=>b≠gm) w4 w9:=(cB.cA hd4).trans (cB.fB xZ fun b hb e=>hb bJ);have hz4:=K4.o.lt;have k1:=(k9.2 _ hz4 af).trans K4.o;have k0:=(k9.2 w.heap.size af af).trans K0'.o;have hq9:Sq gR w9 (fun b=>b≠gm∧b<w.heap.size) (bY b o) fs:=lz.o.keep ⟨aaC L_.o.1 k9.1,fun b hb h=>(k9.2 b (aaD hb L_.o.1) h.1).trans (L_.o.2 b hb h.1)⟩;obtain⟨wF,qw,qx,kF,pQ⟩:=CK (t:=176) k0 rfl (.int .i64 kj) (.int .i64 zn) (bV ko) (bV kq) (bW A4 zr c4) (.int .i64 zN) (.int .i64 zL) (.bool zF);have zz:=qx.cell;have HE:=aa (show nH W0 pe gm (bY b o) fc fs G r (r i+1) S D (G i) w (.returned (.agg #[.int .i64 kj,.int .i64 zn,bV ko,bV kq,bW A4 zr c4,.int .i64 zN,.int .i64 zL,.bool zF])) wF by
   have he:=hE.res kF (pQ _ _ (aaf _ _) aac) af af (fun b h=>by rcases h with h|h<;>omega) (hq9.mono fun b _ h=>⟨h.1,by omega⟩);have IX:=eT.keep (eT.keep hw4 (cB.fB xZ fun b hb e=>HE4.o.o b hb bJ)) (⟨kF.1,fun b hb h=>kF.2 b hb (by rcases h with h|h<;>omega)⟩:cB _ w9 wF);exact⟨_,rfl,eT.mono IX fun b _ h=>h.elim (fun h=> .inl h.1) fun h=> .inr af,he.mono (fun b _ h=>h.elim (fun h=> .inl h.1) fun h=> .inr af) (fun b h e=>by subst e;rcases h with h|h;exact absurd rfl (DY.o _ h);omega) (fun j h=>h),
    ⟨by have:=L_.o.1;have:=k9.1;have:=kF.1;omega,fun b hb h=>(kF.2 b (by have:=L_.o.1;have:=k9.1;omega) af).trans ((k9.2 b (by have:=L_.o.1;omega) h).trans (L_.o.2 b hb h))⟩⟩)
  have z0:=cN.cell (t:=176) k0;have f0:=cN.frozen (t:=176) k0;have z1:=cN.cell (t:=176) k1;have rT:=aa qw;clear qw qx kF pQ hE hE9 hq9 k9 k0 k1 hw4 hd4 hm9 xZ z4 c4' Ez hm4 h0;go_wp2_with fail;rw[← rT.o];exact bodyPost_ret (by simp[results,results150,go_sem,zz]) rfl (HP.o _ _ HE.o)
section
theorem dM.Ta {α:Type} {R:Rel α} {T B:Nat} {w w':World} {S:Nat→Prop} {v:Value} {xs:List α} (h:dM R T B w S v xs) (hs:w.heap.size≤w') (hg:∀ g,v.ownBlock=some g→w'.heap[g]? =w.heap[g]?) (hS:∀ b,b<w.heap.size→S b→some b≠v.ownBlock→w'.heap[b]? =w.heap[b]?):dM R T B w' S v xs:=by
 obtain⟨css,h1,h2,h3,h4⟩:=h;refine⟨css,h1,⟨h2.1,?_⟩,h3,fun j cs x hc hx=>R.keep (h4 j cs x hc hx) ⟨hs,fun b hb q=>hS b hb q.1 q.2⟩⟩;rcases h2.2 with q|⟨g,cap,cur,rfl,hB,hb,rest⟩
 (·exact .inl q);exact .inr ⟨g,cap,cur,rfl,hB,by rw[hg g rfl];exact hb,rest⟩
theorem mH.WH {W0:World} {pe gm:Nat} {FA:Option Addr} {fc:Nat} {fs:List cK} {G:Nat→cV} {S D:Nat→Prop} {W W':World} {row:Option Nat} {B:Nat} (h:mH W0 pe gm FA fc fs G S D W) (hg:W.grownBy W' row) (hB:∀ g,row=some g→B≤g) (h1:pe<B) (h2:gm<B) (h3:∀ b,S b→some b≠row) (hq:Sq gR W (fun b=>b≠gm∧b<B) FA fs):mH W0 pe gm FA fc fs G S D W':=by
 obtain⟨n,f,m1,m2,m3⟩:=h.memo;(have far:∀ {b:Nat},b<B→some b≠row:=fun hb e=>by have:=hB _ e.symm;omega);exact⟨(World.cell?_of_block (a:=bY pe 0) (hg.block pe h.sK (far h1))).trans h.lY,(World.cell?_of_block (a:=bY pe 1) (hg.block pe h.sK (far h1))).trans h.zU,⟨n,f,m1.keep (hg.block gm h.AL (far h2)),m2,fun i v hv=>by
  obtain⟨j,cs,a,d,b,c⟩:=m3 i v hv
  exact⟨j,cs,a,d,b,eT.keep c (cB.fB hg h3)⟩⟩,aaD h.sK hg.size,aaD h.AL hg.size,h.ne,(hq.keep (cB.fB hg fun b hb=>far hb.2)).mono fun b _ hs=>hs.1,h.o,
  h.low.trans ⟨hg.os,hg.tape,hg.output,hg.size,fun b hb=>hg.block b (Nat.lt_trans hb h.AL) (far (Nat.lt_trans hb h2))⟩⟩
structure yw (W0:World) (pe gm:Nat) (FA:Option Addr) (fc:Nat) (fs:List cK) (G:Nat→cV) (S D:Nat→Prop) (w:World) (Jd:List Value) (v:Value) (acc:List cV) (wr:World):Prop where
 b0:cN wr w 47 Jd
 b1:cN wr (w+1) 176 [bU 0,bU 0,bV ⟨#[]⟩,bV ⟨#[]⟩,cD,bU 0,bU 0,.bool false]
 own:dM eT 176 (w+1+1) wr (fun b=>S b∧b<w.heap.size∨w.heap.size+1+1≤b) v acc
 ea:mH W0 pe gm FA fc fs G (fun b=>(S b∧b<w.heap.size∨w.heap.size+1+1≤b)∧some b≠v.ownBlock) D wr
 old:cB (fun b=>b≠gm) w wr
 size:w.heap.size+1+1≤wr
section
variable {W0:World} {pe gm:Nat} {FA:Option Addr} {fc:Nat} {fs:List cK} {G:Nat→cV} {S D:Nat→Prop} {w wr w':World} {Jd:List Value} {v:Value} {acc:List cV}
theorem yw.bZ (h:yw W0 pe gm FA fc fs G S D w Jd v acc wr) (hb:Below wr wr w'):yw W0 pe gm FA fc fs G S D w Jd v acc w':=by
 have hs:=h.size;exact⟨h.b0.bZ hb af,h.b1.bZ hb af,h.own.bZ hb,h.ea.bZ hb,h.old.trans (cB.cA hb),aaC hs hb.size⟩
theorem yw.after {wc:World} (h:yw W0 pe gm FA fc fs G S D w Jd v acc wc) (IJ:gm<w.heap.size) (hz:wr.heap.size≤wc) (hv:∀ g,v.ownBlock=some g→g<wr.heap.size) (hE:mH W0 pe gm FA fc fs G (fun b=>((S b∧b<w.heap.size∨w.heap.size+1+1≤b)∧some b≠v.ownBlock)∨wc.heap.size≤b) D w') (hk:cB (fun b=>b≠gm) wc w'):yw W0 pe gm FA fc fs G S D w Jd v acc w':=by
 have hs:=h.size;have hown:=h.own.lt;refine⟨(hk.2 _ af af).trans h.b0,(hk.2 _ af af).trans h.b1,h.own.Ta hk.1 (fun g e=>hk.2 g (h.own.lt g e).2 (by have:=(h.own.lt g e).1;omega)) (fun b hb q ne=>hk.2 b hb (h.ea.o b ⟨q,ne⟩)),?_,h.old.trans hk,aaC hs hk.1⟩;exact hE.mono (fun b _ q=>q.elim id fun q=>⟨.inr af,fun e=>by have:=hv b e.symm;omega⟩) (fun b q=>h.ea.o b q) (fun _ h=>h)
theorem yw.more {o:Obj} {w9:World} {v':Value} {ys:List cV} (h:yw W0 pe gm FA fc fs G S D w Jd v acc wr) (hpe:pe<w.heap.size) (IJ:gm<w.heap.size) (hq:Sq gR w (fun b=>b≠gm∧b<w.heap.size) FA fs) (G9:Grown eT 176 (w+1+1) (wr.alloc o) (fun b=>S b∧b<w.heap.size∨w.heap.size+1+1≤b) v ys w9 v'):yw W0 pe gm FA fc fs G S D w Jd v' ys w9:=by
 have hs:=h.size;have ha:(wr.alloc o).heap.size=wr.heap.size+1:=ai;have hbo:Below wr wr (wr.alloc o):=cS o;have hb:=G9.bZ (h.own.bZ hbo) af;have hb2:=hb.size;have hown:=h.own.lt;have blk:∀ {g t:Nat} {cs:List Value},g<w.heap.size+1+1→cN wr g t cs→cN w9 g t cs:=fun h1 h2=>(hb.block _ h1).trans ((heap_alloc_old _ _ af).trans h2);have kw:cB (fun b=>b≠gm∧b<w.heap.size) w (wr.alloc o):=⟨by have:=h.old.1;omega,fun b hb h9=>(heap_alloc_old _ _ af).trans (h.old.2 b hb h9.1)⟩;refine⟨blk af h.b0,blk af h.b1,G9.own,?_,⟨by have:=h.old.1;omega,fun b hb3 h9=>(hb.block b af).trans ((heap_alloc_old _ _ af).trans (h.old.2 b hb3 h9))⟩,by omega⟩;have hout:∀ b,(S b∧b<w.heap.size∨w.heap.size+1+1≤b)→b≠gm:=fun b q=>by
  rcases q with q|q
  (·exact h.ea.o b ⟨.inl q,fun e=>by have:=(h.own.lt b e.symm).1;omega⟩);omega
 have he:=((h.ea.bZ hbo).mono (S':=fun b=>((S b∧b<w.heap.size∨w.heap.size+1+1≤b)∧some b≠v.ownBlock)∧b<(wr.alloc o).heap.size) (D':=D) (fun b hb q=>⟨q,hb⟩) (fun b q=>hout b q.1.1) (fun _ h=>h)).WH (B:=w.heap.size+1+1) G9.turn (fun g e=>(h.own.lt g e).1) af af (fun b q=>q.1.2) ((hq.keep kw).mono fun b _ h=>⟨h.1,by omega⟩);refine he.mono (fun b _ q=>⟨q.1.1,fun e=>?_⟩) (fun b q=>hout b q.1) (fun _ h=>h);rcases G9.row with h9|h9
 (·rw[h9]at e;exact q.1.2 e);rw[h9]at e;injection e with e;have:=q.2;omega
end
theorem yw.fin {W0:World} {pe gm:Nat} {FA:Option Addr} {fc:Nat} {fs:List cK} {G:Nat→cV} {r:Nat→Nat} {R:Nat} {S D:Nat→Prop} {w w5 wF:World} {Jd cs:List Value} {v:Value} {acc:List cV} {z:cV} (h:yw W0 pe gm FA fc fs G S (fun j=>D j∨r j<R) w Jd v acc w5) (hpe:pe<w.heap.size) (IJ:gm<w.heap.size) (hq:Sq gR w (fun b=>b≠gm∧b<w.heap.size) FA fs) (hS:∀ b,S b→b≠gm) (hz:eT.is w5 (fun b=>S b∧b<w.heap.size∨w.heap.size+1+1≤b) cs z) (kF:cB (fun b=>b≠w.heap.size+1) w5 wF) (pQ:Below (w+1) w5 wF):nH W0 pe gm FA fc fs G r R S D z w (.returned (.agg cs.toArray)) wF:=by
 have hs:=h.size;have h0:=h.old.1;have h1:=kF.1;have hq5:Sq gR w5 (fun b=>b≠gm∧b≠w.heap.size+1) FA fs:=(hq.keep ⟨h0,fun b hb q=>h.old.2 b hb q.1⟩).mono fun b _ q=>⟨q.1,by omega⟩;have he:=h.ea.res kF pQ af af (fun b q=>by omega) hq5;refine⟨cs,rfl,eT.mono (eT.keep hz ⟨h1,fun b hb q=>kF.2 b hb af⟩) fun b _ q=>q.elim (fun q=> .inl q.1) fun q=> .inr af,he.mono (fun b _ q=>q.1.elim (fun q=> .inl q.1) fun q=> .inr af) (fun b q e=>by subst e;rcases q with q|q;exact absurd rfl (hS _ q);omega) (fun j q=>q),⟨by omega,fun b hb q=>(kF.2 b af af).trans (h.old.2 b hb q)⟩⟩
theorem Pt {G:Nat→cV} {fs:List cK} {op n:Int} {un nm:ByteArray} {l:List cw} (h:¬op=3):eC G fs (.mk op n un nm l)=tY op n un nm 1 1 [] (j5 G fs l):=by
 (conv=>lhs;unfold eC);rw[if_neg h]
theorem Pu {G:Nat→cV} {fs:List cK} {n:Int} {un nm:ByteArray} {l:List cw}:eC G fs (.mk 3 n un nm l)=if(G (findF fs nm).toNat).full then kH else match fs[(findF fs nm).toNat]? with|some f=>lp f.params (j5 G fs l) (G (findF fs nm).toNat).x|none=>kH:=by
 (conv=>lhs;unfold eC);rw[if_pos rfl];(all_goals rfl)
structure wM (fs:List cK) (G:Nat→cV) (r:Nat→Nat):Prop where
 fix:S5 fs G
 Ph:yt fs r
 one:∀ f∈fs,dy (jG fs) f.body=false∧dy (jX fs) f.body=false∧dy (iU f.params) f.body=false∧cE f.body≤1000000∧f.params.length≤6
 len:fs.length≤1000000
theorem Jh (W0:World) (pe gm:Nat) (FA:Option Addr) (fc:Nat) (fs:List cK) (G:Nat→cV) (r:Nat→Nat) (hX:wM fs G r) (R:Nat):∀ (N:Nat),N≤1000000→∀ (x:cw),cE x≤N→(∀ j∈fS fs x,r j<R)→dy (jG fs) x=false→dy (jX fs) x=false→∀ (S D:Nat→Prop) (w:World) (cs:List Value),mH W0 pe gm FA fc fs G S D w→cH w (fun b=>b≠gm) cs x→Calls prog 90 #[.pointer (bY pe 0),.agg cs.toArray] w (nH W0 pe gm FA fc fs G r R S D (eC G fs x) w):=by
 induction R using Nat.strongRecOn with
 |ind R ihR=>
  have hbody:∀ (i:Nat) (hi:i<fs.length),r i<R→∀ (S D:Nat→Prop) (w:World),mH W0 pe gm FA fc fs G S D w→Calls prog 150 #[.pointer (bY pe 0),bU i] w (nH W0 pe gm FA fc fs G r (r i+1) S D (G i) w):=fun i hi hr S D w hE=>
   Pq W0 pe gm FA fc fs G r hX.len i hi (fun S D w cs hE hI=>by
    obtain⟨b1,b2,b3,b4,b5⟩:=hX.one _ (aan hi);rw[hX.fix i fs[i] (List.getElem?_eq_getElem hi)];exact ihR (r i) hr 1000000 aac fs[i].body b4 (hX.Ph i fs[i] (List.getElem?_eq_getElem hi)) b1 b2 S D w cs hE hI) S D w hE
  intro N;induction N with
  |zero=>intro _ x hx;have:=dB x;omega
  |succ N ih=>
   intro hN x hx cT Tb ZQ S D w cs hE hI
   replace ih:=ih af
   generalize hP:nH W0 pe gm FA fc fs G r R S D (eC G fs x) w=P
   have HP:=aa (show ∀ e w',nH W0 pe gm FA fc fs G r R S D (eC G fs x) w e w'→P e w' from fun e w' h=>hP▸h)
   clear hP
   obtain⟨op,n,un,nm,A2,c2,ar,e1,e2,hS⟩:=cH.parts hI
   subst e1 e2
   have xH:cE (.mk op n un nm ar)=1+cR ar:=by unfold cE;rfl
   have hnl:=fZ ar
   have har:ar.length≤1000000:=by omega
   have HSub:=aa (fun y (hy:y∈ar)=>And.intro (show cE y≤N by have:=dH ar y hy;omega) (And.intro (show ∀ j∈fS fs y,r j<R from fun j hj=>cT j (by unfold fS;exact List.mem_append_right _ (ym hy hj))) (And.intro (iY (y:=y) Tb hy) (iY (y:=y) ZQ hy))))
   have HUnk:=aa (ia Tb)
   have HUne:=aa (ia ZQ)
   have HI:=aa (hS.mono (S':=fun b=>b≠gm∧b<w.heap.size) fun b hb h=>⟨h,hb⟩)
   have hpe:=hE.sK
   have IJ:=hE.AL
   have hpg:=hE.ne
   have DY:=aa hE.o
   have lz:=aa (hE.sq.mono (S':=fun b=>b≠gm∧b<w.heap.size) fun b hb h=>⟨h,hb⟩)
   have CP:Hid (yw W0 pe gm FA fc fs G S (fun j=>D j∨r j<R) w [bU op,bU n,bV un,bV nm,bW A2 ar c2] cD [] ((w.alloc (.cells #[bU op,bU n,bV un,bV nm,bW A2 ar c2] 47)).alloc (.cells #[bU 0,bU 0,bV ⟨#[]⟩,bV ⟨#[]⟩,cD,bU 0,bU 0,.bool false] 176))):=by
    have a1:(w.alloc (.cells #[bU op,bU n,bV un,bV nm,bW A2 ar c2] 47)).heap.size=w.heap.size+1:=ai;have k1:=heap_alloc_new (w.alloc (.cells #[bU op,bU n,bV un,bV nm,bW A2 ar c2] 47)) (.cells #[bU 0,bU 0,bV ⟨#[]⟩,bV ⟨#[]⟩,cD,bU 0,bU 0,.bool false] 176);rw[a1]at k1;have hb2:Below w w ((w.alloc (.cells #[bU op,bU n,bV un,bV nm,bW A2 ar c2] 47)).alloc (.cells #[bU 0,bU 0,bV ⟨#[]⟩,bV ⟨#[]⟩,cD,bU 0,bU 0,.bool false] 176)):=(cS _).alloc aT _;exact aa ⟨(heap_alloc_old _ _ aT).trans (heap_alloc_new w _),k1,dM.qK,(hE.mono (S':=fun b=>(S b∧b<w.heap.size∨w.heap.size+1+1≤b)∧some b≠(bW none 0 0).ownBlock) (D':=fun j=>D j∨r j<R) (fun b hb h=>⟨.inl ⟨h,hb⟩,by simp[Value.ownBlock]⟩) (fun b h=>by rcases h.1 with q|q;exact hE.o b q.1;omega) (fun j h=> .inl h)).bZ hb2,cB.cA hb2,by rw[aaI,a1];omega⟩
   have tX:=aa cT
   have HBody:=aa hbody
   have vB:=aa ih
   clear hS hE hI xH hnl hx Tb ZQ hbody ih ihR cT
   go_enter func90,ntmps90
   go_upto_region 1 with fail
   generalize ((w.alloc (.cells #[bU op,bU n,bV un,bV nm,bW A2 ar c2] 47)).alloc (.cells #[bU 0,bU 0,bV ⟨#[]⟩,bV ⟨#[]⟩,cD,bU 0,bU 0,.bool false] 176))=w3 at CP ⊢
   have z0:=CP.o.b0.cell
   go_wp2_with fail
   clear z0
   go_loopw [5,13] (fun v5 Zu wr=>∃ (k:Nat) (v:Value),k≤ar.length∧Zu=bU (k:Int)∧v=v5∧Hid (yw W0 pe gm FA fc fs G S (fun j=>D j∨r j<R) w [bU op,bU n,bV un,bV nm,bW A2 ar c2] v ((ar.take k).map (eC G fs)) wr)) (fun _ Zu _=>ar.length - (intOf Zu).toNat)
   case atStart=>exact⟨0,_,aaG _,rfl,rfl,CP⟩
   case round=>
    clear CP;obtain⟨k,v,hk,rfl,rfl,CP⟩:=hrel;by_cases hlt:k<ar.length
    ·obtain⟨bl,o,cs,hA,Yc,hbl,ey,CL⟩:=HI.o.get hlt;subst hA;have cT:∀ i v,cs[i]? =some v→b_ wr bl (o+k*5+i) v:=fun i v h=>(World.cell?_of_block (a:=bY bl (o+k*5+i)) (CP.o.old.2 bl hbl Yc.1)).trans (CL i v h);clear CL;obtain⟨s1,s2,s3,s4⟩:=HSub.o _ (aan hlt);have qV:=aa (show(ar.take (k+1)).map (eC G fs)=(ar.take k).map (eC G fs)++[eC G fs ar[k]] by rw[aaz hlt,List.map_append];rfl);obtain⟨eU,yn,eV,eW,A3,c3,yr,qX,hes,_⟩:=cH.parts ey;subst hes;have g0:b_ wr bl (o+k*5) (bU eU):=cT 0 _ rfl;have g1:b_ wr bl (o+k*5+1) (bU yn):=cT 1 _ rfl;have g2:b_ wr bl (o+k*5+2) (bV eV):=cT 2 _ rfl;have g3:b_ wr bl (o+k*5+3) (bV eW):=cT 3 _ rfl;have g4:b_ wr bl (o+k*5+4) (bW A3 yr c3):=cT 4 _ rfl;have fL:Below wr wr (wr.alloc (.cells #[bU eU,bU yn,bV eV,bV eW,bW A3 yr c3] 47)):=cS _;have IX:(wr.alloc (.cells #[bU eU,bU yn,bV eV,bV eW,bW A3 yr c3] 47)).heap.size=wr.heap.size+1:=ai;have HXw:=aa (CP.o.bZ fL);have CQ:=aa (vB.o ar[k] s1 s2 s3 s4 _ _ _ _ HXw.o.ea ((ey.mono (S':=fun b=>b≠gm) fun b _ h=>h.1).keep HXw.o.old));generalize eC G fs ar[k]=z at CQ qV;have Pn:=aa (fun g (e:v.ownBlock=some g)=>CP.o.own.lt g e);have hsz:=CP.o.size;have hal:((ar.take k).map (eC G fs)).length=k:=(by rw[aap,List.length_take];omega);generalize (ar.take k).map (eC G fs)=acc at CP HXw qV hal;have Ma:=aa hal;clear cT ey qX s1 s2 s3 s4 fL CP hal vB;go_wp2_with fail;refine CQ.o.mono ?_;rintro e w5 ⟨cz,rfl,hz,ZR,hK5⟩;have Pv:=aa (HXw.o.after (wr:=wr) IJ af (fun g e=>(Pn.o g e).2) (ZR.mono (fun b _ h=>h) (fun b h=>ZR.o b h) (fun j h=>h.elim id .inr)) hK5);have hk5:=hK5.1;obtain⟨es,e,hie⟩:=hz;obtain⟨kj,zn,ko,kq,A4,c4,zr,zS,hes,_⟩:=hie.parts;have HZ0:=aa hie;subst hes e;obtain⟨zx,zN,zL,zF⟩:=z;rw[IX]at HZ0;have HZ:Hid (eT.is w5 (fun b=>(S b∧b<w.heap.size∨w.heap.size+1+1≤b)∧some b≠v.ownBlock) [bU kj,bU zn,bV ko,bV kq,bW A4 zr c4,bU zN,bU zL,.bool zF] ⟨zx,zN,zL,zF⟩):=
      aa ⟨[_,_,_,_,_],rfl,HZ0.o.mono fun b _ h=>h.elim id fun h=>⟨.inr af,fun e=>by have:=(Pn.o b e.symm).2;omega⟩⟩
     have hs5:=Pv.o.size;have HSQ:=lz;clear hie zS HZ0 ZR hK5 CQ HXw g0 g1 g2 g3 g4 IX;go_wp2_with (at_builtin;refine dD (R:=eT) (S:=fun b=>S b∧b<w.heap.size∨w.heap.size+1+1≤b) (xs:=acc) (ys:=[⟨zx,zN,zL,zF⟩]) (T:=176) (t:=237) (B:=w.heap.size+1+1) rfl (.tmp 17) (.tmp 21) 237 rfl rfl Jb (Pv.o.own.bZ (cS _)) rfl _ 1 1 rfl rfl ?hN ?hl ?hB rfl (n:=acc.length+1) rfl ?_);(case hN=>exact rU.jH (R:=eT) (cs:=[bU kj,bU zn,bV ko,bV kq,bW A4 zr c4,bU zN,bU zL,.bool zF]) HZ.o _ rfl);(case hl=>rw[Ma.o];omega);(case hB=>first|omega|(simp only[aaI];omega));intro A9 c9 w9 DX HG;have HX9:=aa (Pv.o.more hpe IJ lz.o HG.o);rw[← qV.o]at HX9;clear HG Pv HZ Ma;go_wp2;go_roundw;exact⟨k+1,_,by omega,rfl,rfl,HX9⟩;simp[intOf];omega
    (obtain rfl:k=ar.length:=by omega);rw[List.take_length, ← iZ]at CP;obtain⟨Av,cv,hv,_,_⟩:=CP.o.own.slice;subst hv;have FR:(j5 G fs ar).length=ar.length:=(by rw[iZ,aap]);have hsz:=CP.o.size;have z0:=CP.o.b0.cell;by_cases ho:op=3
    ·subst ho;clear FR;have hnn:¬findF fs nm<0:=by
      intro h8;have h9:((3:Int)==3&&decide (findF fs nm<0))=false:=HUnk.o;rw[decide_eq_true h8]at h9;cases h9
     obtain⟨jy,hf2⟩:=qu hnn;have hrj:r (findF fs nm).toNat<R:=tX.o _ (by unfold fS;rw[if_pos rfl];simp);have uk:=aa (fun u:eD wr=>qd FA fc fs nm u.at ((CP.o.ea.bZ u.bZ).sq.mono fun _ _ _=>trivial) (by have:=hX.len;unfold maxLen;omega));rw[jy]at uk;have N2:=HUne.o;unfold jX at N2;have N2:Hid (((3:Int)==3&&(match fs[(findF fs nm).toNat]? with|some f=>decide (ar.length≠f.params.length)|none=>false))=false):=aa N2;have nY:Hid (eC G fs (.mk 3 n un nm ar)=if(G (findF fs nm).toNat).full then kH else match fs[(findF fs nm).toNat]? with|some f=>lp f.params (j5 G fs ar) (G (findF fs nm).toNat).x|none=>kH):=aa Pu;generalize (findF fs nm).toNat=j at hf2 hrj uk N2 nY;clear jy hnn;have y0:∀ u:eD wr,b_ u.at pe 0 (.slice FA fs.length fc):=fun u=>u.cell CP.o.ea.lY;have y3:∀ u:eD wr,b_ u.at w.heap.size 3 (.string nm):=fun u=>u.cell (CP.o.b0.cell 3);have KF:=aa (HBody.o j hf2 hrj);go_upto_region 9 with fail;refine dw 7 (C:=fun w'=>∃ u:eD wr,w'=u.at) ah ah dV.drew ?_;simp only[List.take_succ_cons,List.take_zero,List.drop_succ_cons,List.drop_zero];(repeat (quiet_step (first|((go_at_call 128;exact eB (uk.o _))))));refine wpQuiet_nil ?_;rintro w4 ⟨u,rfl⟩;have HX4:=aa (CP.o.bZ u.bZ);clear y0 y3 z0 uk CP;generalize u.at=w4 at HX4 ⊢;have HC4:=aa (KF.o _ _ w4 HX4.o.ea);have HOw4:=aa (fun g (e:(Value.slice Av (j5 G fs ar).length cv).ownBlock=some g)=>HX4.o.own.lt g e);go_wp2_with fail;refine HC4.o.mono ?_;rintro e w5 ⟨cz,rfl,hz,ZR,hK5⟩;have Pv:=aa (HX4.o.after (wr:=w4) IJ aac (fun g e=>(HOw4.o g e).2) (ZR.mono (fun b _ h=>h) (fun b h=>ZR.o b h) (fun k h=>h.elim id fun h=> .inr af)) hK5);have WI:=hX.fix j fs[j] (List.getElem?_eq_getElem hf2);have ZT:=aa (show dy (iU fs[j].params) (G j).x=false by rw[WI];exact L6 _ (hX.one _ (aan hf2)).2.2.1);have Tc:=aa (show EP (G j) by rw[WI];exact wI _);have Td:=aa (show pO (G j) by rw[WI];exact t_ _);have ZU:=aa (hX.one _ (aan hf2)).2.2.2.2;generalize hGj:G j=z at hz nY ZT Tc Td;obtain⟨es,e,hie⟩:=hz;obtain⟨kj,zn,ko,kq,A4,c4,zr,zS,hes,_⟩:=hie.parts;have KE:=aa hie;subst hes e;obtain⟨zx,zN,zL,zF⟩:=z;have hs5:=Pv.o.size;clear hie ZR hK5 HC4 WI hGj HX4 KF;cases zF with
     |true=>
      have EO:=aa (Pv.o.bZ (cS (.cells #[.int .i64 kj,.int .i64 zn,bV ko,bV kq,bW A4 zr c4,.int .i64 zN,.int .i64 zL,.bool true] 176)));go_upto_region 13 with fail;generalize (w5.alloc (.cells #[.int .i64 kj,.int .i64 zn,bV ko,bV kq,bW A4 zr c4,.int .i64 zN,.int .i64 zL,.bool true] 176))=w6 at EO ⊢;obtain⟨wF,qw,qx,kF,pQ⟩:=CK EO.o.b1 rfl (.int .i64 0) (.int .i64 0) (bV ⟨#[]⟩) (bV ⟨#[]⟩) cD (.int .i64 0) (.int .i64 0) (.bool true);have zz:=qx.cell;have HE:=aa (EO.o.fin (cs:=[.int .i64 0,.int .i64 0,bV ⟨#[]⟩,bV ⟨#[]⟩,cD,.int .i64 0,.int .i64 0,.bool true]) hpe IJ lz.o DY.o (I9 _ _) kF (pQ _ _ (aaf _ _) aac));rw[← (show eC G fs (.mk 3 n un nm ar)=kH from nY.o.trans ai)]at HE;have z1:=EO.o.b1.cell;have f1:=EO.o.b1.frozen;have rT:=aa qw;clear qw qx kF pQ nY KE zS;go_wp2_with fail;rw[← rT.o];exact bodyPost_ret (by simp[results,results90,go_sem,zz]) rfl (HP.o _ _ HE.o)
     |false=>
      obtain⟨fb,fo,fcs,hFA,hfS,hfl,fis,fcl⟩:=lz.o.get hf2;subst hFA;rw[List.getElem?_eq_getElem hf2]at nY N2;generalize fs[j]=f at fis nY ZT ZU N2;obtain⟨PA,pd,fes,fe,hps,fie⟩:=fis;obtain⟨bop,bn,bun,bnm,BA,bc,br,Mb,fhes,_⟩:=fie.parts;subst fhes fe;have hpl:f.params.length≤6:=ZU.o;have hun:ar.length=f.params.length:=by
       have h9:=N2.o;have h8:decide (ar.length≠f.params.length)=false:=(by simpa using h9);simpa using h8
      have NX:=aa hun;clear hun;have HW:=aa (show eC G fs (.mk 3 n un nm ar)=lp f.params (j5 G fs ar) zx from nY.o.trans ai);have EO:=aa (Pv.o.bZ (cS (.cells #[bU kj,bU zn,bV ko,bV kq,bW A4 zr c4,bU zN,bU zL,.bool false] 176)));have K9:=aa (show cN (w5.alloc (.cells #[bU kj,bU zn,bV ko,bV kq,bW A4 zr c4,bU zN,bU zL,.bool false] 176)) w5 176 [bU kj,bU zn,bV ko,bV kq,bW A4 zr c4,bU zN,bU zL,.bool false]from heap_alloc_new w5 _);have HZ6:=aa (KE.o.keep (cB.cA (cS (.cells #[bU kj,bU zn,bV ko,bV kq,bW A4 zr c4,bU zN,bU zL,.bool false] 176))));go_upto_region 12 with fail;generalize (w5.alloc (.cells #[bU kj,bU zn,bV ko,bV kq,bW A4 zr c4,bU zN,bU zL,.bool false] 176))=w6 at EO K9 HZ6 ⊢;have WD:zx= .mk kj zn ko kq zr:=zS;have hzN:=Tc.o rfl;have Mc:=Td.o;unfold pO at Mc;have Ji:∀ i v,[bV f.name,bW PA f.params pd,bU bop,bU bn,bV bun,bV bnm,bW BA br bc][i]? =some v→b_ w6 fb (fo+j*7+i) v:=fun i v h=>(World.cell?_of_block (a:=bY fb (fo+j*7+i)) (EO.o.old.2 fb hfl hfS.1)).trans (fcl i v h);have yS:(∀ i,w6.cell? (bY w5 i)=([bU kj,bU zn,bV ko,bV kq,bW A4 zr c4,bU zN,bU zL,.bool false]:List Value)[i]?)∧(b_ w6 pe 0 (bW (bY fb fo) fs fc)∧b_ w6 fb (fo+j*7) (bV f.name)∧b_ w6 fb (fo+j*7+1) (bW PA f.params pd)∧b_ w6 fb (fo+j*7+2) (bU bop)∧b_ w6 fb (fo+j*7+3) (bU bn)∧b_ w6 fb (fo+j*7+4) (bV bun)∧b_ w6 fb (fo+j*7+5) (bV bnm)∧b_ w6 fb (fo+j*7+6) (bW BA br bc)):=
       ⟨K9.o.cell,EO.o.ea.lY,Ji 0 _ rfl,Ji 1 _ rfl,Ji 2 _ rfl,Ji 3 _ rfl,Ji 4 _ rfl,Ji 5 _ rfl,Ji 6 _ rfl⟩
      have hd6:Below w6 w6 w6.drew:=dV.jq;have Yd:(j5 G fs ar).length=f.params.length:=(by rw[iZ,aap];exact NX.o);have Pw:=aa (SZ w6 (fun b=>(S b∧b<w.heap.size∨w.heap.size+1+1≤b)∧b<w6.heap.size) (fun b h=>h.2) f.name PA pd f.params bop bn bun bnm BA br.length bc Av cv (j5 G fs ar) hpl Yd (fun y hy=>by rw[iZ]at hy;obtain⟨x,_,rfl⟩:=aat.1 hy;exact t_ x) 1000000 aac zx (by have h1:((cE zx:Nat):Int)=zN:=hzN;have h2:zN≤200:=Mc.2.1;omega) ZT.o w6.drew _ ((HZ6.o.keep (cB.cA hd6)).mono fun _ _ _=>trivial) aac
       ((hps.mono (S':=fun b=>b≠gm) fun b _ h=>h.1).keep (EO.o.old.trans (cB.cA hd6)) |>.mono fun _ _ _=>trivial) (((EO.o.own.sq fun b _ h=> .inr h).mono fun b hb h=>⟨h,hb⟩).bZ hd6))
      generalize hzz:lp f.params (j5 G fs ar) zx=zz at Pw HW;generalize hfn:f.name=fn at Pw yS;generalize hpq:f.params=ps at Pw yS;generalize hbk:br.length=bk at Pw yS;clear Yd hpl NX fcl Ji fie Mb hps nY N2 hd6 hzz hfn hpq hbk hzN Mc zS WD KE;have hs6:=EO.o.size;refine dz (S:=fun w'=>(∀ i,w'.cell? (bY w5 i)=([.int .i64 kj,.int .i64 zn,bV ko,bV kq,bW A4 zr c4,.int .i64 zN,.int .i64 zL,.bool false]:List Value)[i]?)∧(b_ w' pe 0 (bW (bY fb fo) fs fc)∧b_ w' fb (fo+j*7) (bV fn)∧b_ w' fb (fo+j*7+1) (bW PA ps pd)∧b_ w' fb (fo+j*7+2) (.int .i64 bop)∧b_ w' fb (fo+j*7+3) (.int .i64 bn)∧b_ w' fb (fo+j*7+4) (bV bun)∧b_ w' fb (fo+j*7+5) (bV bnm)∧b_ w' fb (fo+j*7+6) (bW BA bk bc))) [0,2,6,9,1,3,4,5,7,8] [(0,false),(2,false),(6,false),(9,false),(1,false),(3,false),(4,false),(5,false),(7,false),(8,false),(10,true),(11,true)] ah ah au rfl ah (yS) ?_;(iterate 10 refine hwr ?_);refine xJ fun K hK=>?_;go_simp;refine(Pw.o).mono ?_;rintro e w8 ⟨cq,rfl,hq,oU⟩;obtain⟨qes,qe,qie⟩:=hq;obtain⟨qop,qn,qun,qnm,A6,c6,qr,hqx,ZV,_⟩:=qie.parts;have HQ:=aa qie;subst ZV qe;have Ye:=aa (EO.o.bZ (dV.jq.trans (oU.mono dV.jq.size)));have hb8s:=oU.size;obtain⟨wF,qw,qx,kF,pQ⟩:=CK Ye.o.b1 rfl (.int .i64 qop) (.int .i64 qn) (bV qun) (bV qnm) (bW A6 qr c6) (.int .i64 zz.nodes) (.int .i64 zz.levels) (.bool zz.full);have zF:=qx.cell;have z1:=Ye.o.b1.cell;have f1:=Ye.o.b1.frozen;have rT:=aa qw;have Q4:=aa (And.intro kF (pQ _ _ (aaf _ _) aac));clear qw qx kF pQ qie hqx oU;refine hK.o _ _ ?_;clear hK K;refine xJ fun K hK=>?_;go_simp;refine hK.o _ _ ?_;clear hK K;refine fA ?_;(try go_frame);have HE:=aa (Ye.o.fin (cs:=[.int .i64 qop,.int .i64 qn,bV qun,bV qnm,bW A6 qr c6,.int .i64 zz.nodes,.int .i64 zz.levels,.bool zz.full]) (z:=zz) hpe IJ lz.o DY.o ⟨[_,_,_,_,_],rfl,HQ.o.mono fun b _ h=>h.elim (fun h=>h.1) fun h=> .inr (by have:w6.heap.size≤b:=h;omega)⟩ Q4.o.1 Q4.o.2);have YY:Hid (nH W0 pe gm (bY fb fo) fc fs G r R S D (eC G fs (.mk 3 n un nm ar)) w (.returned (.agg #[.int .i64 qop,.int .i64 qn,bV qun,bV qnm,bW A6 qr c6,.int .i64 zz.nodes,.int .i64 zz.levels,.bool zz.full])) wF):=aa (by rw[HW.o];exact HE.o);clear z1 f1 HQ Ye EO yS Pw;go_wp2_with fail;rw[← rT.o];exact bodyPost_ret (by simp[results,results90,go_sem,zF]) rfl (HP.o _ _ YY.o)
    have ho3:(op != 3)=true:=bD;have HW:=aa (show eC G fs (.mk op n un nm ar)=tY op n un nm 1 1 [] (j5 G fs ar)from Pt ho);have HJ:=aa (EN (fun b=>S b∧b<w.heap.size∨w.heap.size+1+1≤b) op n un nm A2 ar.length c2 Av cv (j5 G fs ar) wr (CP.o.own.sq fun b _ h=> .inr h) af (fun y hy=>by rw[iZ]at hy;obtain⟨x,_,rfl⟩:=aat.1 hy;exact t_ x));generalize tY op n un nm 1 1 [] (j5 G fs ar)=z at HJ HW;generalize j5 G fs ar=acc at CP HJ FR ⊢;clear ho FR;go_wp2_with fail;refine HJ.o.mono ?_;rintro e w5 ⟨cz,rfl,hz,ew⟩;have Pv:=aa (CP.o.bZ ew);have hb5s:=ew.size;have hz5:=eT.mono (S':=fun b=>S b∧b<w.heap.size∨w.heap.size+1+1≤b) hz fun b _ h=>h.elim id fun h=> .inr af;obtain⟨es,e,hie⟩:=hz;obtain⟨kj,zn,ko,kq,A4,c4,zr,zS,hes,_⟩:=hie.parts;subst hes e;obtain⟨zx,zN,zL,zF⟩:=z;obtain⟨wF,qw,qx,kF,pQ⟩:=CK Pv.o.b1 rfl (.int .i64 kj) (.int .i64 zn) (bV ko) (bV kq) (bW A4 zr c4) (.int .i64 zN) (.int .i64 zL) (.bool zF);have zz:=qx.cell;have HE:=aa (Pv.o.fin (cs:=[.int .i64 kj,.int .i64 zn,bV ko,bV kq,bW A4 zr c4,.int .i64 zN,.int .i64 zL,.bool zF]) hpe IJ lz.o DY.o hz5 kF (pQ _ _ (aaf _ _) aac));rw[← HW.o]at HE;have z1:=Pv.o.b1.cell;have f1:=Pv.o.b1.frozen;have rT:=aa qw;clear qw qx kF pQ hie zS hz5 HW HJ;go_wp2_with fail;rw[← rT.o];exact bodyPost_ret (by simp[results,results90,go_sem,zz]) rfl (HP.o _ _ HE.o)
end
def zeroE:cw:= .mk 0 0 ⟨#[]⟩ ⟨#[]⟩ []
def fP (fs:List cK) (G:Nat→cV) (x:cw):Int×cw:=
 if dy (jG fs) x then(11,zeroE)else if dy (jX fs) x then(1,zeroE)else if(eC G fs x).full then(6,zeroE)else(0,(eC G fs x).x)
def oC (r:Int×cw) (w:World) (e:Ending) (w':World):Prop:=∃ cs,e= .returned (.tuple #[.agg cs.toArray,bU r.1])∧cH w' (fun b=>w.heap.size≤b) cs r.2∧Below w w w'
theorem wN (w:World) (S:Nat→Prop):cH w S [bU 0,bU 0,bV ⟨#[]⟩,bV ⟨#[]⟩,cD] zeroE:=
 .mk 0 0 ⟨#[]⟩ ⟨#[]⟩ none 0 [] [] rfl (fun h=>absurd rfl h) (fun j cs x h=>by simp at h)
theorem pF (FA:Option Addr) (fc:Nat) (fs:List cK) (G:Nat→cV) (r:Nat→Nat) (hX:wM fs G r) (hF:yl fs) (CR:gO fs=0) (x:cw) (hx:cE x≤1000000) (hr:eZ x=true) (hsm:lV x) (w:World) (cs:List Value) (hs:Sq gR w Any FA fs) (hI:cH w Any cs x):Calls prog 42 #[.agg cs.toArray,bW FA fs fc] w (oC (fP fs G x) w):=by
 generalize hP:oC (fP fs G x) w=P;have HP:=aa (show ∀ e w',oC (fP fs G x) w e w'→P e w' from fun e w' h=>hP▸h);clear hP;have ZW:=aa hI;have lz:=aa hs;have fD:=aa (fun W (hb:Below w w W)=>p_ x cs W (hI.keep (cB.cA hb)) hsm);rw[hr]at fD;have Bi:=aa (fun W (hb:Below w w W)=>uV FA fc fs W (hs.bZ hb) hF hX.len);rw[CR]at Bi;(have hlf:fs.length≤1000000000:=by have:=hX.len;omega);have HU:=aa (fun W (hW:Below w w W)=>wG FA fc fs W (hs.bZ hW) hlf);have HV:=aa (fun W (hW:Below w w W)=>zM FA fc fs W (hs.bZ hW) hlf);have uq:=aa (fun(pf:Nat) (W:World) (hW:Below w w W) (h:uQ pf FA fc fs W)=>
  qg BZ (lb:=#[.pointer (bY pf 0)]) (jG fs) (uQ pf FA fc fs) (fun _=>True) (fun _ _ _ _=>trivial) (fun h hb=>h.bZ hb) (fun W cs y _ hQ hI=>IB pf _ fc fs W cs y hQ hI) x hx W cs trivial h (hI.keep (cB.cA hW)))
 have CC:=aa (fun(hk:dy (jG fs) x=false) (pf:Nat) (W:World) (hW:Below w w W) (h:uQ pf FA fc fs W)=>
  qg zy (lb:=#[.pointer (bY pf 0)]) (jX fs) (uQ pf FA fc fs) (fun x=>dy (jG fs) x=false) (fun x hx y hy=>iY hx hy) (fun h hb=>h.bZ hb) (fun W cs y hy hQ hI=>Eu pf _ fc fs W cs y hQ hI (ia hy)) x hx W cs hk h (hI.keep (cB.cA hW)))
 obtain⟨op,n,un,nm,A2,c2,ar,e1,e2,_⟩:=cH.parts hI;subst e2;have a1:(w.alloc (.cells #[bU op,bU n,bV un,bV nm,bW A2 ar c2] 47)).heap.size=w.heap.size+1:=ai;have k1:=heap_alloc_new (w.alloc (.cells #[bU op,bU n,bV un,bV nm,bW A2 ar c2] 47)) (.cells #[bU 0,bU 0,bV ⟨#[]⟩,bV ⟨#[]⟩,cD] 47);rw[a1]at k1;have K0:Hid (cN ((w.alloc (.cells #[bU op,bU n,bV un,bV nm,bW A2 ar c2] 47)).alloc (.cells #[bU 0,bU 0,bV ⟨#[]⟩,bV ⟨#[]⟩,cD] 47)) w 47 [bU op,bU n,bV un,bV nm,bW A2 ar c2]):=aa ((heap_alloc_old _ _ aT).trans (heap_alloc_new w _));have K1:Hid (cN ((w.alloc (.cells #[bU op,bU n,bV un,bV nm,bW A2 ar c2] 47)).alloc (.cells #[bU 0,bU 0,bV ⟨#[]⟩,bV ⟨#[]⟩,cD] 47)) (w+1) 47 [bU 0,bU 0,bV ⟨#[]⟩,bV ⟨#[]⟩,cD]):=aa k1;have dI:=aa (show Below w w ((w.alloc (.cells #[bU op,bU n,bV un,bV nm,bW A2 ar c2] 47)).alloc (.cells #[bU 0,bU 0,bV ⟨#[]⟩,bV ⟨#[]⟩,cD] 47))from(cS _).alloc aT _);have nY:=aa (show fP fs G x=if dy (jG fs) x then(11,zeroE)else if dy (jX fs) x then(1,zeroE)else if(eC G fs x).full then(6,zeroE)else(0,(eC G fs x).x)from rfl);generalize fP fs G x=res at HP nY;clear hs hI k1 a1 CR hr e1;go_enter func42,ntmps42;go_upto_region 1 with fail;generalize ((w.alloc (.cells #[bU op,bU n,bV un,bV nm,bW A2 ar c2] 47)).alloc (.cells #[bU 0,bU 0,bV ⟨#[]⟩,bV ⟨#[]⟩,cD] 47))=w2 at K0 K1 dI ⊢;have y2:=K0.o.cell;go_wp2_with fail;refine(fD.o _ dI.o).mono ?_;rintro e w3 ⟨rfl,hb3⟩;have eE:=aa hb3;clear hb3 y2;go_wp2_with fail;refine(Bi.o _ (dI.o.trans (eE.o.mono dI.o.size))).mono ?_;rintro e w4 ⟨rfl,hb4⟩;have gz:=aa (eE.o.trans (hb4.mono eE.o.size));have I3:=aa (fun W (q:Below w2 w2 W)=>(K0.o.bZ q K0.o.lt).cell);have qb:=aa (fun W (q:Below w2 w2 W)=>K1.o.bZ q K1.o.lt);have HU:=aa (fun W (q:Below w2 w2 W)=>HU.o W (dI.o.trans (q.mono dI.o.size)));have HV:=aa (fun W (q:Below w2 w2 W)=>HV.o W (dI.o.trans (q.mono dI.o.size)));have uq:=aa (fun pf W (q:Below w2 w2 W) h=>uq.o pf W (dI.o.trans (q.mono dI.o.size)) h);have CC:=aa (fun hk pf W (q:Below w2 w2 W) h=>CC.o hk pf W (dI.o.trans (q.mono dI.o.size)) h);have hz2:=dI.o.size;have hs1:=K1.o.lt;have y4:=I3.o w4 gz.o;clear hb4 fD Bi eE K0 K1;go_wp2_with fail;refine dz (S:=fun w'=>∀ j,w'.cell? (bY w j)=([bU op,bU n,bV un,bV nm,bW A2 ar c2]:List Value)[j]?) [0,1,4] [(0,false),(1,false),(2,true),(3,true),(4,false)] ah ah au rfl ah (y4) ?_;refine hwr ?_;refine hwr ?_;refine hwt fun K hK=>?_;go_simp;have ZX:=aa (gz.o.trans (dV.jq.mono gz.o.size));refine(HU.o _ ZX.o).mono ?_;rintro e w5a ⟨rfl,hf5a,hb5a⟩;have WJ:=aa (ZX.o.trans (hb5a.mono ZX.o.size));have y5a:=I3.o w5a WJ.o;have HF5a:=aa hf5a;clear hb5a hf5a;refine hK.o _ _ (y5a) ?_;clear hK K;refine hwt fun K hK=>?_;go_simp;refine(uq.o _ w5a WJ.o HF5a.o).mono ?_;rintro e w5b ⟨rfl,hb5b⟩;have Md:=aa (WJ.o.trans (hb5b.mono WJ.o.size));have y5b:=I3.o w5b Md.o;clear hb5b;refine hK.o _ _ (y5b) ?_;clear hK K;refine hwr ?_;refine fA ?_;(try go_frame);clear y4 y5a HF5a;cases hu:dy (jG fs) x with
 |true=>
  have WK:=aa (show res=(11,zeroE) by rw[nY.o,hu];rfl);clear nY CC I3;obtain⟨wF,qw,qx,_,pQ⟩:=Je (qb.o w5b Md.o) (.int .i64 0) (.int .i64 0) (bV ⟨#[]⟩) (bV ⟨#[]⟩) cD;have zz:=qx.cell;have HE:=aa (show oC (11,zeroE) w (.returned (.tuple #[.agg #[.int .i64 0,.int .i64 0,bV ⟨#[]⟩,bV ⟨#[]⟩,cD],.int .i64 11])) wF from⟨_,rfl,wN _ _,pQ _ _ (dI.o.trans (Md.o.mono dI.o.size)) af⟩);have z1:=(qb.o w5b Md.o).cell;have f1:=(qb.o w5b Md.o).frozen;have rT:=aa qw;rw[← WK.o]at HE;clear qw qx pQ WK;go_wp2_with fail;rw[← rT.o];exact bodyPost_ret bC rfl (HP.o _ _ HE.o)
 |false=>
  have hk0:=aa hu;have CC:=aa (CC.o hu);go_wp2_with fail;refine dz (S:=fun w'=>∀ j,w'.cell? (bY w j)=([bU op,bU n,bV un,bV nm,bW A2 ar c2]:List Value)[j]?) [0,1,4] [(0,false),(1,false),(2,true),(3,true),(4,false)] ah ah au rfl ah (y5b) ?_;refine hwr ?_;refine hwr ?_;refine hwt fun K hK=>?_;go_simp;have ZY:=aa (Md.o.trans (dV.jq.mono Md.o.size));refine(HV.o _ ZY.o).mono ?_;rintro e w6a ⟨rfl,hf6a,hb6a⟩;have WL:=aa (ZY.o.trans (hb6a.mono ZY.o.size));have y6a:=I3.o w6a WL.o;have HF6a:=aa hf6a;clear hb6a hf6a;refine hK.o _ _ (y6a) ?_;clear hK K;refine hwt fun K hK=>?_;go_simp;refine(CC.o _ w6a WL.o HF6a.o).mono ?_;rintro e uA ⟨rfl,hb6b⟩;have DZ:=aa (WL.o.trans (hb6b.mono WL.o.size));have y6b:=I3.o uA DZ.o;clear hb6b;refine hK.o _ _ (y6b) ?_;clear hK K;refine hwr ?_;refine fA ?_;(try go_frame);clear y5b y6a HF6a;cases hv:dy (jX fs) x with
  |true=>
   have WK:=aa (show res=(1,zeroE) by rw[nY.o,hu,hv];rfl);clear nY CC I3;obtain⟨wF,qw,qx,_,pQ⟩:=Je (qb.o uA DZ.o) (.int .i64 0) (.int .i64 0) (bV ⟨#[]⟩) (bV ⟨#[]⟩) cD;have zz:=qx.cell;have HE:=aa (show oC (1,zeroE) w (.returned (.tuple #[.agg #[.int .i64 0,.int .i64 0,bV ⟨#[]⟩,bV ⟨#[]⟩,cD],.int .i64 1])) wF from⟨_,rfl,wN _ _,pQ _ _ (dI.o.trans (DZ.o.mono dI.o.size)) af⟩);have z1:=(qb.o uA DZ.o).cell;have f1:=(qb.o uA DZ.o).frozen;have rT:=aa qw;rw[← WK.o]at HE;clear qw qx pQ WK;go_wp2_with fail;rw[← rT.o];exact bodyPost_ret bC rfl (HP.o _ _ HE.o)
  |false=>
   have hB6:=dI.o.trans (DZ.o.mono dI.o.size);have hz6:=DZ.o.size;have HE7:Hid (mH uA (uA+1) uA FA fc fs G (fun _=>False) (fun _=>False) ((uA.alloc (.map #[] 0)).alloc (.cells #[bW FA fs fc,.map (some uA.heap.size)] 174))):=by
    have hb1:Below uA uA (uA.alloc (.map #[] 0)):=cS _;have a1:(uA.alloc (.map #[] 0)).heap.size=uA.heap.size+1:=ai;have k2:=heap_alloc_new (uA.alloc (.map #[] 0)) (.cells #[bW FA fs fc,.map (some uA.heap.size)] 174);rw[a1]at k2;have hb2:=hb1.alloc aT (.cells #[bW FA fs fc,.map (some uA.heap.size)] 174);exact aa ⟨cN.cell k2 0,cN.cell k2 1,⟨0,_,(jc.made uA).alloc _,by unfold ER;exact aaC (by rw[Nat.zero_add];exact List.countP_le_length) ai,fun k v h=>by cases h⟩,by rw[aaI,a1];omega,by rw[aaI,a1];omega,by omega,((lz.o.bZ hB6).mono (S':=fun b=>b≠uA.heap.size) fun b hb _=>by omega).bZ hb2,fun b h=>h.elim,hb2⟩
   have nA:Below uA uA ((uA.alloc (.map #[] 0)).alloc (.cells #[bW FA fs fc,.map (some uA.heap.size)] 174)):=HE7.o.low;have CQ:=aa (Jh uA (uA+1) uA FA fc fs G r hX (((fS fs x).map r).sum+1) 1000000 aac x hx (fun j hj=>by have:=SV (aat.2 ⟨j,hj,rfl⟩:r j∈(fS fs x).map r);omega) hu hv _ _ _ _ HE7.o (((ZW.o.keep (cB.cA hB6)).mono (S':=fun b=>b≠uA.heap.size) fun b hb _=>by omega).keep (cB.cA nA)));have Px:=aa (show res=if(eC G fs x).full then(6,zeroE)else(0,(eC G fs x).x) by rw[nY.o,hu,hv];rfl);have Tc:=aa (wI (G:=G) (fs:=fs) x);have Td:=aa (t_ (G:=G) (fs:=fs) x);have K0:=aa (I3.o uA DZ.o);have hmm:=@run_makeMap prog;clear nY HU HV uq CC I3;go_upto_region 8 with fail;clear hmm;generalize ((uA.alloc (.map #[] 0)).alloc (.cells #[bW FA fs fc,.map (some uA.heap.size)] 174))=w7 at HE7 CQ nA ⊢;have y7:∀ j,w7.cell? (bY w j)=([bU op,bU n,bV un,bV nm,bW A2 ar c2]:List Value)[j]? :=fun j=>(nA.cell (p:=bY w j) (by show w.heap.size<uA;omega)).trans (K0.o j);have j9:=aa nA;clear nA y6b hB6;go_wp2_with fail;refine CQ.o.mono ?_;rintro e w8 ⟨cz,rfl,hz,hE8,hK8⟩;generalize eC G fs x=z at hz Px Tc Td;obtain⟨es,e,hie⟩:=hz;obtain⟨kj,zn,ko,kq,A4,c4,zr,zS,hes,_⟩:=hie.parts;have HZ:=aa hie;subst hes e;obtain⟨zx,zN,zL,zF⟩:=z;have HL8:=aa hE8.low;have hk1:cN w8 (w+1) 47 [bU 0,bU 0,bV ⟨#[]⟩,bV ⟨#[]⟩,cD]:=(HL8.o.block _ af).trans (qb.o uA DZ.o);have hz8:=HL8.o.size;have Q4:=aa hk1;have hBw:=(dI.o.trans (DZ.o.mono dI.o.size)).trans (HL8.o.mono af);have cG:=aa hBw;clear hie hE8 hK8 y7 CQ hk1 hBw;cases zF with
   |true=>
    have jt:=aa (show Below w8 w8 (w8.alloc (.cells #[.int .i64 kj,.int .i64 zn,bV ko,bV kq,bW A4 zr c4,.int .i64 zN,.int .i64 zL,.bool true] 176))from cS _);have hp1:=Q4.o.lt;go_upto_region 10 with fail;generalize (w8.alloc (.cells #[.int .i64 kj,.int .i64 zn,bV ko,bV kq,bW A4 zr c4,.int .i64 zN,.int .i64 zL,.bool true] 176))=w9 at jt ⊢;have k9:=Q4.o.bZ jt.o hp1;obtain⟨wF,qw,qx,_,pQ⟩:=Je k9 (.int .i64 0) (.int .i64 0) (bV ⟨#[]⟩) (bV ⟨#[]⟩) cD;have zz:=qx.cell;have HE:=aa (show oC (6,zeroE) w (.returned (.tuple #[.agg #[.int .i64 0,.int .i64 0,bV ⟨#[]⟩,bV ⟨#[]⟩,cD],.int .i64 6])) wF from⟨_,rfl,wN _ _,pQ _ _ (cG.o.trans (jt.o.mono cG.o.size)) af⟩);rw[← (show res=(6,zeroE)from Px.o)]at HE;have z1:=k9.cell;have f1:=k9.frozen;have rT:=aa qw;clear qw qx pQ k9;go_wp2_with fail;rw[← rT.o];exact bodyPost_ret bC rfl (HP.o _ _ HE.o)
   |false=>
    have jt:=aa (show Below w8 w8 (w8.alloc (.cells #[.int .i64 kj,.int .i64 zn,bV ko,bV kq,bW A4 zr c4,.int .i64 zN,.int .i64 zL,.bool false] 176))from cS _);have K9:=aa (show cN (w8.alloc (.cells #[.int .i64 kj,.int .i64 zn,bV ko,bV kq,bW A4 zr c4,.int .i64 zN,.int .i64 zL,.bool false] 176)) w8 176 [.int .i64 kj,.int .i64 zn,bV ko,bV kq,bW A4 zr c4,.int .i64 zN,.int .i64 zL,.bool false]from heap_alloc_new w8 _);have hp1:=Q4.o.lt;go_upto_region 11 with fail;generalize (w8.alloc (.cells #[.int .i64 kj,.int .i64 zn,bV ko,bV kq,bW A4 zr c4,.int .i64 zN,.int .i64 zL,.bool false] 176))=w9 at jt K9 ⊢;have hzN:=Tc.o rfl;have Mc:=Td.o;unfold pO at Mc;have HCp:=aa (Jf 1000000 aac zx (by have h1:((cE zx:Nat):Int)=zN:=hzN;have h2:zN≤200:=Mc.2.1;omega) w9 _ ((HZ.o.keep (cB.cA jt.o)).mono fun _ _ _=>trivial));have y9:=K9.o.cell;have hz9:=jt.o.size;clear hzN Mc zS;go_wp2_with fail;refine HCp.o.mono ?_;rintro e wa ⟨cq,rfl,hq,hba⟩;obtain⟨qop,qn,qun,qnm,A6,c6,qr,hqx,ZV,_⟩:=cH.parts hq;have HQ:=aa hq;subst ZV;have hbA:=jt.o.trans (hba.mono jt.o.size);have ka:=Q4.o.bZ hbA hp1;obtain⟨wF,qw,qx,kF,pQ⟩:=Je ka (.int .i64 qop) (.int .i64 qn) (bV qun) (bV qnm) (bW A6 qr c6);have zz:=qx.cell;have HE:=aa (show oC (0,zx) w (.returned (.tuple #[.agg #[.int .i64 qop,.int .i64 qn,bV qun,bV qnm,bW A6 qr c6],.int .i64 0])) wF from⟨_,rfl,(HQ.o.keep ⟨kF.1,fun b hb h=>kF.2 b hb af⟩).mono fun b _ h=>by have:=cG.o.size;omega,pQ _ _ (cG.o.trans (hbA.mono cG.o.size)) af⟩);rw[← (show res=(0,zx)from Px.o)]at HE;have z1:=cN.cell ka;have f1:=cN.frozen ka;have rT:=aa qw;clear qw qx pQ kF ka hbA hq hqx hba;go_wp2_with fail;rw[← rT.o];exact bodyPost_ret bC rfl (HP.o _ _ HE.o)
end
section
open Go Go.RowKit Go.Proofs Sh Kb
section
theorem wO {s:ByteArray} {n:Nat} (h:s.size≤n) (hn:n≤1000):Ms s:=by
 (have:1048576≤maxLen:=by decide);unfold Ms;omega
theorem Me {s:ByteArray} (h:kM s=true):s.size≤400:=by
 unfold kM at h;simp only[aag,decide_eq_true_eq]at h;exact h.1
theorem Mf {op n:Int} {u nm:ByteArray} {k:Nat} (h:p9 op n u nm k=true):u.size≤400∧nm.size≤20:=by
 have key:∀ {x:ByteArray},jL x=true→x.size=0:=fun h=>lH h;unfold p9 at h;split at h
 (·simp only[aag]at h;exact⟨Me h.1.1.1.1,by have:=lH h.1.2;omega⟩);split at h
 (·cases h)
 ·next q=>
  have hu:jL u=true:=by simpa using (by simpa using q:_∧_).2
  have hu0:=lH hu
  refine⟨by omega,?_⟩
  repeat' split at h
  all_goals simp only[aag]at h
  ·
   exact tP h.1
  ·
   exact tP h.1
  ·
   exact tP h.1.1
  ·
   have:=lH h.1;omega
  ·
   have:=lH h.1;omega
  ·
   have:=lH h.1;omega
  ·
   have:=lH h.1.2;omega
mutual
theorem ES:∀ x:cw,gJ x=true→lV x
 | .mk op n u nm l,h=>by
  simp only[gJ,aag]at h;obtain⟨h1,h2⟩:=Mf h.1;exact⟨wO h1 ak,wO h2 ak,CS l h.2⟩
theorem CS:∀ l:List cw,lF l=true→Vd l
 |[],_=>trivial
 |x :: l,h=>by
  simp only[lF,aag]at h;exact⟨ES x h.1,CS l h.2⟩
end
theorem gM {x:cw} (h:eZ x=true):lV x∧cE x≤1000000:=by
 unfold eZ at h;simp only[aag,decide_eq_true_eq]at h;exact⟨ES x h.2,by omega⟩
theorem Bj {u:ByteArray} {b:Bool} (h:(cQ u&&b)=true):Ms u:=by
 rw[aag]at h;exact wO (ov h.1) ak
theorem jI {u:ByteArray} (h:dW u=true):Ms u:=wO (tP h) ak
theorem CT {l:List ByteArray} {a b:Nat} (h:jd l a b=true) (hb:b≤100):(∀ s∈l,Ms s)∧l.length≤100:=
 ⟨fun s hs=>jI ((BU h).2 s hs),by have:=(BU h).1;omega⟩
theorem Mg {x:oZ} (h:iK x=true):BO x∧x.inp.length≤100∧x.o.length≤100∧x.cells.length≤100:=by
 have hm:1048576≤maxLen:=ak;unfold iK at h;split at h
 (·cases h);simp only[aag]at h;obtain⟨⟨⟨⟨h1,h2⟩,h3⟩,h4⟩,_⟩:=h;obtain⟨_,s1,s2⟩:=Iw x.kind;obtain⟨a1,a2⟩:=CT h1 s1;obtain⟨b1,b2⟩:=CT h2 s2;obtain⟨c1,c2⟩:=CT h3 (by split<;>omega);refine⟨⟨⟨a1,by omega⟩,⟨b1,by omega⟩,?_,⟨c1,by omega⟩⟩,a2,b2,c2⟩;split at h4
 (·exact jI h4);exact wO (Nat.le_of_eq (lH h4)) ak
theorem Py {s:cL} (h:fQ s=true):Lit s:=by
 have hm:1048576≤maxLen:=ak;have R:=iE h;have hl:=R.len;(have hi:(xR s).length=(uses s).length:=by simp only[xR,uses,gP,iC,aao,aap];omega);have hu:(uses s).length=s.imports.length+s.inputs.length+s.dZ.length+s.stores.length+(s.tables.length+s.funcs.length+s.cells.length):=(by simp only[uses,gP,iC,aao,aap]);have hT:∀ t∈s.tables,t.rows.length≤100∧Ms t.unit:=fun t ht=>by
  have:=(R.tables t ht).2;unfold gD at this;simp only[aag,decide_eq_true_eq]at this;exact⟨this.1.2,wO (ov this.1.1.1) ak⟩
 have hF:∀ f∈s.funcs,f.params.length≤6∧(∀ q∈f.params,vX q)∧lV f.body∧cE f.body≤1000000:=fun f hf=>by
  have:=(R.funcs f hf).2;unfold mW at this;simp only[aag,decide_eq_true_eq]at this;refine⟨this.2.1.2,fun q hq=>?_,gM this.2.2⟩;have hq:=List.all_eq_true.1 this.1 q hq;unfold nC at hq;rw[aag]at hq;exact⟨jI hq.1,wO (ov hq.2) ak⟩
 have hC:∀ c∈s.cells,Ms c.unit∧lV c.lC∧cE c.lC≤1000000:=fun c hc=>by
  have:=(R.cells c hc).2;unfold nM at this;rw[aag]at this;exact⟨wO (ov this.1) ak,gM this.2⟩
 have hR:∀ r∈s.cI,r.steps.length≤100∧∀ y∈r.steps,BO y∧y.inp.length≤100∧y.o.length≤100∧y.cells.length≤100:=fun r hr=>by
  have:=(R.cI r hr).2;unfold fV at this;simp only[aag,decide_eq_true_eq]at this;exact⟨this.1,fun y hy=>Mg (List.all_eq_true.1 this.2 y hy)⟩
 refine⟨⟨jI R.name,fun x hx=>?_,fun x hx=>?_,fun x hx=>⟨jI (R.tables x hx).1,(hT x hx).2,by have:=(hT x hx).1;omega⟩,fun x hx=>⟨jI (R.funcs x hx).1,by have:=(hF x hx).1;omega,(hF x hx).2.1,(hF x hx).2.2.1⟩,
  fun x hx=>⟨jI (R.cells x hx).1,(hC x hx).1,(hC x hx).2.1⟩,fun x hx=>⟨jI (R.dZ x hx).1,Bj (R.dZ x hx).2⟩,fun x hx=>⟨jI (R.stores x hx).1,Bj (R.stores x hx).2⟩,
  fun x hx=>⟨jI (R.cI x hx).1,by have:=(hR x hx).1;omega,fun y hy=>((hR x hx).2 y hy).1⟩,by omega⟩,by omega,by omega,by omega,by omega,by omega,by omega,
  fun t ht=>by have:=(hT t ht).1;omega,fun r hr=>⟨by have:=(hR r hr).1;omega,fun y hy=>by have:=((hR r hr).2 y hy).2;omega⟩,fun f hf=>⟨(hF f hf).2.2.2,by have:=(hF f hf).1;omega⟩,fun c hc=>(hC c hc).2.2⟩
 (·have h2:=(R.imports x hx).2;refine⟨jI (R.imports x hx).1,Bj h2,?_⟩;rw[aag]at h2;unfold gK at h2;simp only[aag]at h2;exact jI h2.2.2);have h2:=(R.inputs x hx).2;refine⟨jI (R.inputs x hx).1,Bj h2,?_⟩;rw[aag]at h2;have h3:=h2.2;unfold jF at h3;rw[Bool.or_eq_true]at h3;rcases h3 with h3|h3
 (·exact wO (Nat.le_of_eq (lH h3)) ak);exact jI h3
end
end
open Go Go.RowKit Bg Go.Proofs Sh Kb
theorem Jj {c:UInt8} (h:32≤c.toNat∧c.toNat≤126):jE c=true:=by
 unfold jE;simp only[aag,decide_eq_true_eq,UInt8.le_iff_toNat_le];exact h
theorem Gm {c:UInt8} (h:cW c=true):jE c=true:=by
 unfold cW at h;simp only[Bool.or_eq_true,aag,decide_eq_true_eq,UInt8.le_iff_toNat_le]at h;refine Jj ?_;rcases h with h|h
 (·have h1:97≤c.toNat:=h.1;have h2:c.toNat≤122:=h.2;omega);have h1:65≤c.toNat:=h.1;have h2:c.toNat≤90:=h.2;omega
theorem ET {p:UInt8→Bool} {c:UInt8}:∀ {l:Bytes},c∈l.takeWhile p→p c=true
 |[],h=>by simp at h
 |a :: l,h=>by
  rw[List.takeWhile_cons]at h;split at h
  ·next ha=>
   rcases aas.1 h with rfl|h
   (·exact ha);exact ET h
  simp at h
theorem Pz {t:Bytes} (h:∀ c∈(Sh.eC t).2,jE c=true):∀ c∈t,jE c=true:=by
 cases t with
 |nil=>intro c hc;simp at hc
 |cons d u=>
  have h0:=h;unfold Sh.eC at h;by_cases hd:(50≤d&&d≤57)=true
  ·simp only[hd,if_true]at h;intro c hc;rcases aas.1 hc with rfl|hc
   (·simp only[aag,decide_eq_true_eq,UInt8.le_iff_toNat_le]at hd;have h1:50≤c.toNat:=hd.1;have h2:c.toNat≤57:=hd.2;exact Jj af);exact h c hc
  have e:(Sh.eC (d :: u)).2=d :: u:=by
   show(if(50≤d&&d≤57)=true then((d.toNat:Int) - 48,u)else(1,d :: u)).2=_;rw[if_neg hd]
  intro c hc;exact h0 c (by rw[e];exact hc)
theorem sN:∀ (k:Nat) (s:Bytes) (l:List iQ),lD k s=some l→∀ c∈s,jE c=true
 |0,s,l,h=>by
  unfold lD at h;by_cases hs:s=[]
  (·subst hs;intro c hc;simp at hc);rw[if_neg hs]at h;cases h
 |k+1,[],l,h=>by intro c hc;simp at hc
 |k+1,g :: r,l,h=>by
  unfold lD at h;simp only at h;split at h
  (·cases h);next hc=>
  simp only[Bool.or_eq_true,decide_eq_true_eq,not_or,Bool.not_eq_true']at hc;cases hi:lD k (Sh.eC (r.dropWhile cW)).2 with
  |none=>rw[hi]at h;cases h
  |some m=>
   have hr:=Pz (sN k _ m hi);intro c hcm;rcases aas.1 hcm with rfl|hcm
   ·have hg:=hc.2;by_cases h1:c=42
    (·subst h1;decide);by_cases h2:c=47
    (·subst h2;decide);simp[h1,h2]at hg
   rw[← List.takeWhile_append_dropWhile (p:=cW) (l:=r)]at hcm;rcases aar.1 hcm with hcm|hcm
   (·exact Gm (ET hcm));exact hr c hcm
theorem Jk {s:ByteArray} (h:cQ s=true):kM s=true:=by
 have hz:=ov h;unfold kM;simp only[aag,decide_eq_true_eq];refine⟨by omega,List.all_eq_true.2 ?_⟩;unfold cQ jK at h;cases hi:gC s.data.toList with
 |none=>rw[hi]at h;simp at h
 |some l=>
  unfold gC at hi;split at hi
  (·(next e=>intro c hc;rw[e]at hc;simp at hc));next c0 r e=>
  split at hi
  ·split at hi
   ·next Wm=>
    intro c hc;rw[e]at hc;rcases aas.1 hc with rfl|hc
    (·rw[Wm];decide);exact sN _ _ _ hi c hc
   intro c hc;exact sN _ _ _ hi c (List.mem_cons_of_mem _ hc)
  cases hi
theorem Mh {fs:List cK} (h:(fs.map (·.name)).Nodup) {i:Nat} (hi:i<fs.length):findF fs fs[i].name=(i:Int):=by
 unfold findF AH;rw[List.findIdx?_eq_some_iff_getElem.2 ⟨hi,by unfold Kz;simp,fun j hj=>by
  have hj':j<fs.length:=af;have hne:fs[j].name≠fs[i].name:=by
   have:=List.pairwise_iff_getElem.1 h j i (by simpa using hj') aW hj;simpa using this
  unfold Kz;simpa using hne⟩]
theorem wP {s:cL} (h:fQ s=true) (hz:gh s):yl s.funcs:=by
 have R:=iE h;refine⟨fun f hf=>?_,fun i hi=>Mh ?_ hi⟩
 ·obtain⟨h1,h2⟩:=R.funcs f hf;unfold mW at h2;simp only[aag,decide_eq_true_eq]at h2;obtain⟨p,⟨q1,q2⟩,q3⟩:=h2;have hp:∀ q∈f.params,dW q.name=true∧cQ q.unit=true:=fun q hq=>by
   have:=List.all_eq_true.1 p q hq;unfold nC at this;simpa using this
  exact⟨⟨h1,q1,q2,fun q hq=>⟨(hp q hq).1,Jk (hp q hq).2,(hz.funcs f hf).each q hq⟩,q3,hz.funcs f hf⟩,(gM q3).2,fun q hq=>(hp q hq).2⟩
 have hn:=(sB h).1;have:(s.funcs.map (·.name)).Sublist ((uses s).map (·.1)):=by
  simp only[uses,iC,List.map_append,List.map_map];exact List.Sublist.trans (List.Sublist.trans (by exact List.sublist_append_right _ _) (List.sublist_append_left _ _)) (List.sublist_append_right _ _)
 exact hn.sublist this
theorem Mi {fs:List cK} (hF:yl fs) (hl:fs.length≤1000000) (h:gO fs=0):∃ G r,wM fs G r:=by
 unfold gO at h;split at h
 (·cases h);split at h
 ·next h0=>
  have hc:Gg fs=false:=(by cases hc:Gg fs<;>simp_all);have hb:I7 fs:=fun f hf=>⟨(sL (pE h0 f hf)).2.2.1,(hF.one f hf).2.1⟩;obtain⟨r,hr⟩:=S6 hb hc;obtain⟨G,hG⟩:=Jg hr;refine⟨G,r,hG,hr,fun f hf=>?_,hl⟩;obtain⟨_,c2,c3,c4⟩:=sL (pE h0 f hf);exact⟨c3,c4,c2,(hF.one f hf).2.1,(hF.one f hf).1.hi⟩
 (next h0=>exact absurd h h0)
section
section
variable {p:ByteArray} {d:Nat} {fs fs':List cK}
theorem op3 {op n:Int} {u nm:ByteArray} {l:List cw} {P:Bool}:((cw.mk op n u nm l).op==3&&P)=if op=3 then P else false:=by
 show(op==3&&P)=_;by_cases h:op=3
 (·rw[if_pos h,h];simp);rw[if_neg h,show(op==3)=false by simpa using h];rfl
theorem op1 {op n:Int} {u nm:ByteArray} {l:List cw} {P:Bool}:((cw.mk op n u nm l).op==1&&P)=if op=1 then P else false:=by
 show(op==1&&P)=_;by_cases h:op=1
 (·rw[if_pos h,h];simp);rw[if_neg h,show(op==1)=false by simpa using h];rfl
theorem known {op n:Int} {u nm:ByteArray} {l:List cw} (h:jG fs (.mk op n u nm l)=false) (ho:op=3):¬findF fs nm<0:=by
 unfold jG at h;rw[op3,if_pos ho]at h;exact of_decide_eq_false h
end
end
end Go.Proofs.YtfppbjfnllhgcaaGreat
namespace Kn
def ins (k:Nat):List Nat→List Nat
 |[]=>[k]
 |a :: l=>if k≤a then k :: a :: l else a :: ins k l
abbrev St:=List Int×List Nat
def less (s:St) (k:Nat):St:=(s.1.set k (s.1.getD k 0 - 1),if(s.1.set k (s.1.getD k 0 - 1)).getD k 0=0 then ins k s.2 else s.2)
def gN (us:List Nat) (s:St):St:=us.foldl less s
def D1 (U:List (List Nat)):Nat→St→List Nat
 |0,_=>[]
 |_+1,(_,[])=>[]
 |f+1,(l,i :: q)=>i :: D1 U f (gN (U.getD i []) (l,q))
def iz (g:List (List Nat)) (n k:Nat):List Nat:=(aav n).filter fun i=>(g.getD i []).contains k
def nj (g:List (List Nat)):List (List Nat):=(aav g.length).map (iz g g.length)
def gV (g:List (List Nat)) (n:Nat):List Nat:=(aav n).filter fun i=>(g.getD i []).isEmpty
def lens (g:List (List Nat)):List Int:=g.map fun l=>(l.length:Int)
def oD (g:List (List Nat)):List Nat:=D1 (nj g) (2*g.length+1) (lens g,gV g g.length)
def jv (g:List (List Nat)):Option (List Nat):=if(oD g).length<g.length then none else some (oD g)
theorem sO (k:Nat):∀ l:List Nat,(ins k l).Perm (k :: l)
 |[]=>by unfold ins;exact List.Perm.refl _
 |a :: l=>by
  unfold ins;split
  (·exact List.Perm.refl _);exact((sO k l).cons a).trans (List.Perm.swap k a l)
theorem WM (k:Nat) (l:List Nat):(ins k l).length=l.length+1:=by rw[(sO k l).length_eq];rfl
theorem Gn {k x:Nat} {l:List Nat}:x∈ins k l↔x=k∨x∈l:=by rw[(sO k l).mem_iff];simp
abbrev WO (l:List Nat):Prop:=l.Pairwise (· ≤·)
theorem N3 (k:Nat):∀ l:List Nat,WO l→WO (ins k l)
 |[],_=>by unfold ins;simp
 |a :: l,h=>by
  obtain⟨h1,h2⟩:=List.pairwise_cons.1 h;unfold ins;split
  ·next hk=>
   refine List.pairwise_cons.2 ⟨fun x hx=>?_,h⟩;rcases aas.1 hx with rfl|hx
   (·exact hk);exact aaC hk (h1 x hx)
  next hk=>
  refine List.pairwise_cons.2 ⟨fun x hx=>?_,N3 k l h2⟩;rcases Gn.1 hx with rfl|hx
  (·omega);exact h1 x hx
def meas (s:St):Nat:=s.2.length+s.1.countP (fun z=>decide (0<z))
theorem mO {l:List Int} {k:Nat} (h:k<l.length) (z:Int):(l.set k z).getD k 0=z:=by
 rw[aam,List.getElem?_set_self h];rfl
theorem D2 {l:List Int} {k:Nat} (h:k<l.length):(l.set k (l.getD k 0 - 1)).countP (fun z=>decide (0<z))+(if l.getD k 0=1 then 1 else 0)≤l.countP (fun z=>decide (0<z)):=by
 induction l generalizing k with
 |nil=>simp at h
 |cons a l ih=>
  cases k with
  |zero=>
   simp only[List.set_cons_zero,List.getD_cons_zero,List.countP_cons,decide_eq_true_eq];by_cases h1:a=1
   (·subst h1;simp);rw[if_neg h1];by_cases h2:0<a - 1
   (·rw[if_pos h2,if_pos af];omega);rw[if_neg h2];omega
  |succ k=>
   have:=ih (k:=k) aK;simp only[List.set_cons_succ,List.getD_cons_succ,List.countP_cons];omega
theorem wQ (s:St) (k:Nat):(less s k).1.length=s.1.length:=by simp[less]
theorem PB {s:St} {k:Nat} (h:k<s.1.length):meas (less s k)≤meas s:=by
 have:=D2 h;unfold meas less;simp only[mO h];by_cases h1:s.1.getD k 0=1
 (·rw[if_pos h1]at this;rw[if_pos af,WM];omega);rw[if_neg h1]at this;rw[if_neg af];omega
theorem yy (us:List Nat):∀ s:St,(gN us s).1.length=s.1.length:=by
 induction us with
 |nil=>intro s;rfl
 |cons k us ih=>intro s;exact(ih (less s k)).trans (wQ s k)
theorem uY {us:List Nat}:∀ {s:St},(∀ k∈us,k<s.1.length)→meas (gN us s)≤meas s:=by
 induction us with
 |nil=>intro s _;exact Nat.le_refl _
 |cons k us ih=>
  intro s h;exact aaC (ih (s:=less s k) fun j hj=>by rw[wQ];exact h j (by simp[hj])) (PB (h k ai))
def UOK (U:List (List Nat)) (n:Nat):Prop:=∀ i,∀ k∈U.getD i [],k<n
def WQ (g:List (List Nat)):Prop:=∀ i,∀ k∈g.getD i [],k<g.length
theorem sP {α:Type} (f:Nat→List α) (n i:Nat):((aav n).map f).getD i []=if i<n then f i else[]:=by
 rw[aam,List.getElem?_map];by_cases h:i<n
 (·rw[List.getElem?_range h,if_pos h];rfl);rw[List.getElem?_eq_none aK,if_neg h];rfl
theorem Te {g:List (List Nat)}:UOK (nj g) g.length:=fun i k hk=>by
 unfold nj at hk;rw[sP]at hk;split at hk
 (·unfold iz at hk;exact List.mem_range.1 (List.mem_filter.1 hk).1);simp at hk
theorem CU (g:List (List Nat)):(lens g).length=g.length:=by simp[lens]
theorem CV (g:List (List Nat)):meas (lens g,gV g g.length)≤2*g.length:=by
 unfold meas;have h1:(gV g g.length).length≤g.length:=by
  have:=List.length_filter_le (fun i=>(g.getD i []).isEmpty) (aav g.length);rw[List.length_range]at this;exact this
 have h2:(lens g).countP (fun z=>decide (0<z))≤g.length:=by
  have:=List.countP_le_length (p:=fun z=>decide ((0:Int)<z)) (l:=lens g);rw[CU]at this;exact this
 simp only;omega
end Kn
namespace Go.Proofs.YtfppbjfnllhgcaaGreat
open Go Go.RowKit Bg Go.Proofs Sh Kb
section
theorem Mj {fs:List cK} {op n:Int} {u nm:ByteArray} {l:List cw} {y:cw} (hy:y∈l) {j:Nat} (h:j∈fS fs y):j∈fS fs (.mk op n u nm l):=by
 unfold fS;exact List.mem_append_right _ (ym hy h)
theorem sQ {fs:List cK} (N:Nat):∀ (x:cw),cE x≤N→dy (jG fs) x=false→∀ j∈fS fs x,j<fs.length:=by
 induction N with
 |zero=>intro x hx;have:=dB x;omega
 |succ N ih2=>
  intro x hx hq j hj;cases x with
  |mk op m u nm l=>
   have xH:cE (.mk op m u nm l)=1+cR l:=aM;unfold fS at hj;rcases aar.1 hj with hj|hj
   ·by_cases h3:op=3
    (·rw[if_pos h3]at hj;rw[aau.1 hj];exact(qu (known (ia hq) h3)).2);rw[if_neg h3]at hj;simp at hj
   obtain⟨y,hy,h5⟩:=CF hj;exact ih2 y aN (iY hq hy) j h5
open Classical in
noncomputable def pR (fs:List cK):Nat→cV:=if h:∃ G,∃ r,wM fs G r then h.choose else fun _=>kH
theorem Bk {fs:List cK} (h:∃ G r,wM fs G r):∃ r,wM fs (pR fs) r:=by
 unfold pR;rw[dif_pos h];exact h.choose_spec
noncomputable def CW (fs:List cK) (c:fH):Int×cw:=fP fs (pR fs) c.lC
noncomputable def yz (s:cL):Option (List cw):=if fQ s=true∧gO s.funcs=0∧∀ c∈s.cells,(CW s.funcs c).1=0 then some (s.cells.map fun c=>(CW s.funcs c).2)else none
def isName (nm:ByteArray) (y:cw):Bool:=y.op==1&&y.name==nm
def wR (cells:List fH) (x:cw):List Nat:=(aav cells.length).filter fun k=>match cells[k]? with|some c=>dy (isName c.name) x|none=>false
noncomputable def jg (s:cL):Option (List (List Nat)):=(yz s).map fun l=>l.map (wR s.cells)
noncomputable def gG (s:cL):Int×List Nat:=match jg s with
 |none=>(1,[])
 |some g=>match Kn.jv g with
  |none=>(23,[])
  |some l=>(0,l)
theorem ZZ {cells:List fH} {x:cw}:∀ k∈wR cells x,k<cells.length:=fun k hk=>List.mem_range.1 (List.mem_filter.1 hk).1
end
theorem N4 {op n:Int} {u nm:ByteArray} {l:List cw}:lV (.mk op n u nm l)↔Ms u∧Ms nm∧∀ y∈l,lV y:=by
 have hl:∀ l:List cw,Vd l↔∀ y∈l,lV y:=by
  intro l;induction l with
  |nil=>unfold Vd;simp
  |cons a l ih=>unfold Vd;rw[ih];simp
 (conv=>lhs;unfold lV);rw[hl]
theorem Tf:Ms ⟨#[]⟩:=by unfold Ms;show 0≤maxLen;omega
theorem wS:lV kH.x:=N4.2 ⟨Tf,Tf,fun y hy=>by simp at hy⟩
theorem Mk {op n:Int} {un nm:ByteArray} (h1:Ms un) (h2:Ms nm):∀ (l:List cV) (a b:Int) (acc:List cw),(∀ y∈acc,lV y)→(∀ y∈l,lV y.x)→lV (tY op n un nm a b acc l).x
 |[],a,b,acc,ha,_=>N4.2 ⟨h1,h2,ha⟩
 |y :: l,a,b,acc,ha,hy=>by
  unfold tY;split
  (·exact wS);exact Mk h1 h2 l _ _ _ (fun z hz=>by
   rcases aar.1 hz with hz|hz
   (·exact ha z hz);rw[aau.1 hz];exact hy y ai) fun z hz=>hy z (by simp[hz])
theorem WR {ps:List eR} {args:List cV} (ha:∀ y∈args,lV y.x) (N:Nat):∀ x:cw,cE x≤N→lV x→lV (lp ps args x).x:=by
 induction N with
 |zero=>intro x hx;have:=dB x;omega
 |succ N ih=>
  intro x hx hs;cases x with
  |mk op n u nm l=>
   have hn:cE (.mk op n u nm l)=1+cR l:=aM;obtain⟨h1,h2,h3⟩:=N4.1 hs;by_cases h:op=1
   ·subst h;rw[tZ];by_cases hj:(mY ps nm).toNat<args.length
    (·rw[aam,List.getElem?_eq_getElem hj];exact ha _ (aan hj));rw[aam,List.getElem?_eq_none af];exact wS
   rw[Be h];have h4:=CM (Q:=fun y=>lV y.x) (ps:=ps) (args:=args) l [] (fun y hy=>ih y aN (h3 y hy)) (fun z hz=>by simp at hz);cases hp:sM ps args l []with
   |inl z=>rw[hp]at h4;exact h4
   |inr r=>rw[hp]at h4;exact Mk h1 h2 r 1 1 [] (fun y hy=>by simp at hy) h4
theorem Gp {G:Nat→cV} {fs:List cK} (N:Nat):∀ x:cw,cE x≤N→lV x→(∀ j∈fS fs x,lV (G j).x)→lV (eC G fs x).x:=by
 induction N with
 |zero=>intro x hx;have:=dB x;omega
 |succ N ih=>
  intro x hx hs hG;cases x with
  |mk op n u nm l=>
   have hn:cE (.mk op n u nm l)=1+cR l:=aM;obtain⟨h1,h2,h3⟩:=N4.1 hs;have hl:∀ z∈j5 G fs l,lV z.x:=fun z hz=>by
    rw[iZ]at hz;obtain⟨y,hy,rfl⟩:=aat.1 hz;exact ih y aN (h3 y hy) fun j hj=>hG j (Mj hy hj)
   unfold eC;by_cases ho:op=3
   ·rw[if_pos ho];have hb:=hG (findF fs nm).toNat (by unfold fS;rw[if_pos ho];simp);split
    (·exact wS);split
    (·exact WR hl _ _ aac hb);exact wS
   rw[if_neg ho];exact Mk h1 h2 _ 1 1 [] (fun y hy=>by simp at hy) hl
theorem Tg {fs:List cK} {G:Nat→cV} {r:Nat→Nat} (hX:wM fs G r) (hs:∀ f∈fs,lV f.body) (n:Nat):∀ i,i<fs.length→r i<n→lV (G i).x:=by
 induction n with
 |zero=>intro i _ h;omega
 |succ n ih=>
  intro i hi hn;have e:=List.getElem?_eq_getElem hi;have hm:=aan hi;rw[hX.fix _ _ e];exact Gp _ _ aac (hs _ hm) fun j hj=>ih j (sQ _ _ aac (hX.one _ hm).1 j hj) (by have:=hX.Ph i _ e j hj;omega)
theorem EU {s:cL} {l:List cw} (hz:gh s) (h:yz s=some l):fQ s=true∧l.length=s.cells.length∧∀ x∈l,lV x∧cE x≤200:=by
 unfold yz at h;split at h
 ·next hc=>
  obtain⟨hr,hk,ha⟩:=hc;injection h with h;subst h;have hR:=iE hr;have hF:=wP hr hz;have A_:s.funcs.length≤(uses s).length:=bI;have hlen:=hR.len;obtain⟨r,hX⟩:=Bk (Mi hF af hk);refine⟨hr,by simp,fun x hx=>?_⟩;obtain⟨c,hc,rfl⟩:=aat.1 hx;have h0:=ha c hc;(have wT:eZ c.lC=true:=by have:=(hR.cells c hc).2;unfold nM at this;simp only[aag]at this;exact this.2);have hsf:∀ f∈s.funcs,lV f.body:=fun f hf=>(gM ((hF.one f hf).1.body)).1;unfold CW fP at h0 ⊢;cases hu:dy (jG s.funcs) c.lC with
  |true=>rw[hu]at h0;simp at h0
  |false=>
   rw[hu]at h0;cases hv:dy (jX s.funcs) c.lC with
   |true=>rw[hv]at h0;simp at h0
   |false=>
    rw[hv]at h0;cases hf:(eC (pR s.funcs) s.funcs c.lC).full with
    |true=>rw[hf]at h0;simp at h0
    |false=>
     simp only[Bool.false_eq_true,if_false];refine⟨Gp _ _ aac (gM wT).1 fun j hj=>Tg hX hsf _ j (sQ _ _ aac hu j hj) (aaE _),?_⟩;have h1:=wI (G:=pR s.funcs) (fs:=s.funcs) c.lC hf;have h2:=t_ (G:=pR s.funcs) (fs:=s.funcs) c.lC;unfold pO at h2;omega
 cases h
def kI (l:List fH):Nat→ByteArray→Option Nat
 |0,_=>none
 |k+1,nm=>match l[k]? with
  |some c=>if nm=c.name then some k else kI l k nm
  |none=>kI l k nm
theorem wU {l:List fH} {nm:ByteArray} {i:Nat}:∀ k,kI l k nm=some i→i<k∧∃ c,l[i]? =some c∧c.name=nm
 |0,h=>by cases h
 |k+1,h=>by
  unfold kI at h;split at h
  ·next c hc=>
   split at h
   (·(next e=>injection h with h;subst h;exact⟨by omega,c,hc,e.symm⟩));obtain⟨h1,h2⟩:=wU k h;exact⟨by omega,h2⟩
  obtain⟨h1,h2⟩:=wU k h;exact⟨by omega,h2⟩
theorem ri {l:List fH} (hn:(l.map (·.name)).Nodup) {i:Nat} (hi:i<l.length):∀ k,i<k→kI l k l[i].name=some i
 |0,h=>by omega
 |k+1,h=>by
  unfold kI;by_cases hk:k<l.length
  ·rw[List.getElem?_eq_getElem hk];show(if l[i].name=l[k].name then some k else kI l k l[i].name)=some i;by_cases e:i=k
   (·subst e;rw[if_pos rfl]);have hne:l[i].name≠l[k].name:=by
    have:=List.pairwise_iff_getElem.1 hn i k aW bR af;simpa using this
   rw[if_neg hne];exact ri hn hi k af
  rw[List.getElem?_eq_none af];exact ri hn hi k af
theorem zV {s:cL} (h:fQ s=true):(s.cells.map (·.name)).Nodup:=by
 have hn:=(sB h).1;have e:(uses s).map (·.1)=(gP s).map (·.1)++(s.tables.map (·.name)++s.funcs.map (·.name))++s.cells.map (·.name):=(by simp[uses,iC,Function.comp_def]);rw[e]at hn;exact(List.nodup_append.1 hn).2.1
end Go.Proofs.YtfppbjfnllhgcaaGreat
