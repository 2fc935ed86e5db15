/- Parts of the proof, packed (CallP to ExpS); each theorem bears its own conditions. -/
import Derived.Test.YtfppbjfnllhgcaaGreatPp05
set_option linter.unusedVariables false
set_option linter.unusedSimpArgs false
set_option maxRecDepth 100000
set_option maxHeartbeats 8000000
open Go.Proofs.Tryz
open Go.Lib renaming hid → aa
open Nat renaming lt_of_lt_of_le→aaD,le_trans→aaC,zero_le→aaG,lt_succ_self→aaE
open Go.World renaming size_alloc→aaI
open List renaming getElem_mem→aan,length_append→aao,getD_eq_getElem?_getD→aam,mem_singleton→aau,mem_cons→aas,length_map→aap,mem_append→aar,take_succ_eq_append_getElem→aaz,mem_map→aat,replicate→aaw,range→aav
open Go.RowKit.Below renaming refl→aaf
open Bool renaming and_eq_true→aag
theorem aU {p:Prop} (h:p:=by rw[a1];omega):p:=h
theorem bD {p:Prop} (h:p:=by simp[results,Tryz.results42,go_sem,zz]):p:=h
theorem bK {p:Prop} (h:p:=by simp[uses,iA,gP];omega):p:=h
namespace Go.Proofs.YtfppbjfnllhgcaaGreat
section
open Go Go.RowKit Bg Go.Proofs Sh Kb
section
mutual
def lF (ps:List eX) (args:List dh):cw→dh
 | .mk op n un nm l=>if op=1 then args.getD (nh ps nm).toNat lu else
  match sS ps args l []with
  | .inl z=>z
  | .inr acc=>xO op n un nm 1 1 [] acc
def sS (ps:List eX) (args:List dh):List cw→List dh→dh ⊕ List dh
 |[],acc=> .inr acc
 |y :: l,acc=>if(lF ps args y).full then .inl (lF ps args y)else sS ps args l (acc++[lF ps args y])
end
theorem yy {ps:List eX} {args:List dh} {y:cw} {l:List cw} {acc:List dh}:sS ps args (y :: l) acc=if(lF ps args y).full then .inl (lF ps args y)else sS ps args l (acc++[lF ps args y]):=by
 (conv=>lhs;unfold sS)
theorem Bu {ps:List eX} {args:List dh} {op n:Int} {un nm:ByteArray} {l:List cw} (h:¬op=1):lF ps args (.mk op n un nm l)=match sS ps args l []with| .inl z=>z| .inr acc=>xO op n un nm 1 1 [] acc:=by
 (conv=>lhs;unfold lF);rw[if_neg h]
theorem ud {ps:List eX} {args:List dh} {n:Int} {un nm:ByteArray} {l:List cw}:lF ps args (.mk 1 n un nm l)=args.getD (nh ps nm).toNat lu:=by
 unfold lF;rw[if_pos rfl]
theorem Js:pX lu:=⟨by decide,by decide,by decide,by decide⟩
theorem Ou {ps:List eX} {args:List dh}:∀ (l:List cw) (acc:List dh),(∀ y∈l,pX (lF ps args y))→(∀ z∈acc,pX z)→match sS ps args l acc with| .inl z=>pX z| .inr r=>∀ z∈r,pX z
 |[],acc,_,h=>by unfold sS;exact h
 |y :: l,acc,hy,h=>by
  rw[yy];by_cases hf:(lF ps args y).full=true
  (·rw[if_pos hf];exact hy y ai);rw[if_neg hf];exact Ou l _ (fun z hz=>hy z (by simp[hz])) fun z hz=>by
   rcases aar.1 hz with hz|hz
   (·exact h z hz);rw[aau.1 hz];exact hy y ai
theorem WS {ps:List eX} {args:List dh} (ha:∀ y∈args,pX y) (N:Nat):∀ (x:cw),cE x≤N→pX (lF ps args x):=by
 induction N with
 |zero=>intro x hx;have:=dB x;omega
 |succ N ih=>
  intro x hx;cases x with
  |mk op n u nm l=>
   have hn:cE (.mk op n u nm l)=1+cT l:=aM;by_cases h:op=1
   ·subst h;rw[ud];by_cases hj:(nh ps nm).toNat<args.length
    (·rw[aam,List.getElem?_eq_getElem hj];exact ha _ (aan hj));rw[aam,List.getElem?_eq_none af];exact Js
   rw[Bu h];have h2:=Ou (ps:=ps) (args:=args) l [] (fun y hy=>ih y aQ) (fun z hz=>by simp at hz);cases hp:sS ps args l []with
   |inl z=>rw[hp]at h2;exact h2
   |inr r=>rw[hp]at h2;exact Gx r 1 1 [] ak ak ak ak h2
theorem Jt:PJ prog 237 176 8:= .of (.agg #[bU 0,bU 0,bV ByteArray.empty,bV ByteArray.empty,cD,bU 0,bU 0,.bool false]) 96 underlying237 ah ah ak ak
structure Ju (S0:Nat→Prop) (w:World) (Jv cs7:List Value) (v:Value) (acc:List dh) (wr:World):Prop where
 b0:cN wr w 47 Jv
 b1:cN wr (w+1) 69 cs7
 b2:cN wr (w+1+1) 176 [bU 0,bU 0,bV ⟨#[]⟩,bV ⟨#[]⟩,cD,bU 0,bU 0,.bool false]
 own:dO eY 176 (w+1+1+1) wr (fun b=>S0 b∨w.heap.size+1+1+1≤b) v acc
 low:Below w w wr
 size:w.heap.size+1+1+1≤wr
section
variable {S0:Nat→Prop} {w wr w':World} {Jv cs7:List Value} {v:Value} {acc:List dh}
theorem Ju.bZ (h:Ju S0 w Jv cs7 v acc wr) (hb:Below wr wr w'):Ju S0 w Jv cs7 v acc w':=by
 have hs:=h.size;exact⟨h.b0.bZ hb af,h.b1.bZ hb af,h.b2.bZ hb af,h.own.bZ hb,h.low.trans (hb.mono h.low.size),aaC hs hb.size⟩
theorem Ju.more {o:Obj} {w9:World} {v':Value} {ys:List dh} (h:Ju S0 w Jv cs7 v acc wr) (G:Grown eY 176 (w+1+1+1) (wr.alloc o) (fun b=>S0 b∨w.heap.size+1+1+1≤b) v ys w9 v'):Ju S0 w Jv cs7 v' ys w9:=by
 have hs:=h.size;have ha:(wr.alloc o).heap.size=wr.heap.size+1:=ai;have hb:=G.bZ (h.own.bZ (cS o)) af;have hb2:=hb.size;have blk:∀ {g t:Nat} {cs:List Value},g<w.heap.size+1+1+1→cN wr g t cs→cN w9 g t cs:=fun h1 h2=>(hb.block _ h1).trans ((heap_alloc_old _ _ af).trans h2);exact⟨blk af h.b0,blk af h.b1,blk af h.b2,G.own,(h.low.alloc h.low.size o).trans (hb.mono af),by omega⟩
end
theorem Tp (B0:Nat) (S0:Nat→Prop) (hS0:∀ b,S0 b→b<B0) (fn:ByteArray) (PA:Option Addr) (pd:Nat) (ps:List eX) (fo fm:Int) (fu fq:ByteArray) (FB:Option Addr) (fk fc:Nat) (AA:Option Addr) (ac:Nat) (args:List dh) (hps:ps.length≤6) (hal:args.length=ps.length) (hao:∀ y∈args,pX y) (N:Nat) (hN:N≤1000000):∀ (x:cw),cE x≤N→dK (iU ps) x=false→∀ (w:World) (cs:List Value),cH w Any cs x→B0≤w.heap.size→Sq jm w Any PA ps→Sq eY w (fun b=>S0 b) AA args→Calls prog 151 #[.agg cs.toArray,.agg #[bV fn,bW PA ps pd,bU fo,bU fm,bV fu,bV fq,bW FB fk fc],bW AA args ac] w (pY (fun b=>S0 b) (lF ps args x) w):=by
 induction N with
 |zero=>intro x hx;have:=dB x;omega
 |succ N ih=>
  intro x hx hst w cs hI hB0 hsp Yt
  replace ih:=ih af
  generalize hP:pY (fun b=>S0 b) (lF ps args x) w=P
  have HP:=aa (show ∀ e w',pY (fun b=>S0 b) (lF ps args x) w e w'→P e w' from fun e w' h=>hP▸h)
  clear hP
  obtain⟨op,n,un,nm,A2,c2,ar,e1,e2,hS⟩:=cH.parts hI
  subst e1 e2
  have vE:cE (.mk op n un nm ar)=1+cT ar:=by unfold cE;rfl
  have hnl:=fN ar
  have Bb:Hid (Ju S0 w [bU op,bU n,bV un,bV nm,bW A2 ar c2] [bV fn,bW PA ps pd,bU fo,bU fm,bV fu,bV fq,bW FB fk fc] cD [] (((w.alloc (.cells #[bU op,bU n,bV un,bV nm,bW A2 ar c2] 47)).alloc (.cells #[bV fn,bW PA ps pd,bU fo,bU fm,bV fu,bV fq,bW FB fk fc] 69)).alloc (.cells #[bU 0,bU 0,bV ⟨#[]⟩,bV ⟨#[]⟩,cD,bU 0,bU 0,.bool false] 176))):=by
   have a1:(w.alloc (.cells #[bU op,bU n,bV un,bV nm,bW A2 ar c2] 47)).heap.size=w.heap.size+1:=ai;have a2:((w.alloc (.cells #[bU op,bU n,bV un,bV nm,bW A2 ar c2] 47)).alloc (.cells #[bV fn,bW PA ps pd,bU fo,bU fm,bV fu,bV fq,bW FB fk fc] 69)).heap.size=w.heap.size+1+1:=ai;have k1:=heap_alloc_new (w.alloc (.cells #[bU op,bU n,bV un,bV nm,bW A2 ar c2] 47)) (.cells #[bV fn,bW PA ps pd,bU fo,bU fm,bV fu,bV fq,bW FB fk fc] 69);have k2:=heap_alloc_new ((w.alloc (.cells #[bU op,bU n,bV un,bV nm,bW A2 ar c2] 47)).alloc (.cells #[bV fn,bW PA ps pd,bU fo,bU fm,bV fu,bV fq,bW FB fk fc] 69)) (.cells #[bU 0,bU 0,bV ⟨#[]⟩,bV ⟨#[]⟩,cD,bU 0,bU 0,.bool false] 176);rw[a1]at k1;rw[a2]at k2;exact aa ⟨(heap_alloc_old _ _ (by rw[a2];omega)).trans ((heap_alloc_old _ _ aU).trans (heap_alloc_new w _)),(heap_alloc_old _ _ (by rw[a2];omega)).trans k1,k2,dO.ql,((cS _).alloc aU _).alloc (by rw[a2];omega) _,by rw[aaI,a2];omega⟩
  have HHd:=aa (jD hst)
  have HSub:=aa (fun y (hy:y∈ar)=>And.intro (kr (y:=y) hst hy) (show cE y≤N by have:=dP ar y hy;omega))
  have HSP:=aa hsp
  have HSA:=aa Yt
  have HI:=aa hS
  have har:ar.length≤1000000:=by omega
  clear hst hI hsp Yt hS vE hx
  by_cases ho:op=1
  ·
   subst ho;have hj:¬nh ps nm<0:=by
    intro h8;have h9:((1:Int)==1&&decide (nh ps nm<0))=false:=HHd.o;rw[decide_eq_true h8]at h9;cases h9
   have hj2:=Gd (Zn nm) ps;change nh ps nm<_ at hj2;have HW:=aa (ud (ps:=ps) (args:=args) (n:=n) (un:=un) (nm:=nm) (l:=ar));have E1:=aa (fun W (hb:Below w w W)=>oH .nilFunc PA pd ps fo fm fu fq FB fk fc fn nm W (HSP.o.bZ hb) aH);generalize nh ps nm=z at hj hj2 HW E1;obtain⟨j,rfl⟩:∃ j:Nat,z=(j:Int):=⟨z.toNat,by omega⟩;have hja:j<args.length:=af;rw[Int.toNat_natCast,aam,List.getElem?_eq_getElem hja]at HW;obtain⟨bl,o,cs,hA,hbB,hbl,ey,cM⟩:=HSA.o.get hja;subst hA;generalize args[j]=y at HW ey;have HX:=aa ey;obtain⟨es,e,hie⟩:=ey;obtain⟨eR,yn,eT,eU,A3,c3,yr,_,hes,_⟩:=hie.parts;subst hes e;go_enter func151,ntmps151;go_upto_region 1 with fail;generalize (((w.alloc (.cells #[.int .i64 1,.int .i64 n,bV un,bV nm,bW A2 ar c2] 47)).alloc (.cells #[bV fn,bW PA ps pd,.int .i64 fo,.int .i64 fm,bV fu,bV fq,bW FB fk fc] 69)).alloc (.cells #[.int .i64 0,.int .i64 0,bV ⟨#[]⟩,bV ⟨#[]⟩,cD,.int .i64 0,.int .i64 0,.bool false] 176))=w3 at Bb ⊢;have z0:=Bb.o.b0.cell;have z1:=Bb.o.b1.cell;have hsz:=Bb.o.size;go_wp2_with fail;refine(E1.o w3 Bb.o.low).mono ?_;rintro e w4 ⟨rfl,hb4⟩;have Z6:=aa (Bb.o.bZ hb4);clear hb4 E1 Bb z0 z1 hsz ih;have hs4:=Z6.o.size;have hc:∀ i v,[Value.int .i64 eR,.int .i64 yn,bV eT,bV eU,bW A3 yr c3,.int .i64 y.nodes,.int .i64 y.levels,.bool y.full][i]? =some v→b_ w4 bl (o+j*8+i) v:=fun i v h=>(Z6.o.low.cell (p:=bY bl (o+j*8+i)) hbl).trans (cM i v h);have g0:b_ w4 bl (o+j*8) (.int .i64 eR):=hc 0 _ rfl;have g1:=hc 1 _ rfl;have g2:=hc 2 _ rfl;have g3:=hc 3 _ rfl;have g4:=hc 4 _ rfl;have g5:=hc 5 _ rfl;have g6:=hc 6 _ rfl;have g7:=hc 7 _ rfl;have z2:=Z6.o.b2.cell;have f2:=Z6.o.b2.frozen;obtain⟨wF,qE,qF,kF,pZ⟩:=CX Z6.o.b2 rfl (.int .i64 eR) (.int .i64 yn) (bV eT) (bV eU) (bW A3 yr c3) (.int .i64 y.nodes) (.int .i64 y.levels) (.bool y.full);have zF:=qF.cell;have HE:=aa (show pY (fun b=>S0 b) (lF ps args (.mk 1 n un nm ar)) w (.returned (.agg #[.int .i64 eR,.int .i64 yn,bV eT,bV eU,bW A3 yr c3,.int .i64 y.nodes,.int .i64 y.levels,.bool y.full])) wF by
    rw[HW.o];have hk:cB (fun b=>S0 b) w wF:=(cB.cA Z6.o.low).trans ⟨kF.1,fun b hb h=>kF.2 b hb (by have:=hS0 b h;omega)⟩;exact⟨_,rfl,eY.mono (eY.keep HX.o hk) fun b _ h=> .inl h,pZ _ _ Z6.o.low af⟩)
   have r6:=aa qE;generalize y.nodes=yN at*;generalize y.levels=yL at*;generalize y.full=yF at*;clear qE qF kF pZ hc cM HX hie HW;go_wp2_with fail;rw[← r6.o];exact bodyPost_ret (by simp[results,results151,go_sem,zF]) rfl (HP.o _ _ HE.o)
  ·
   have ho3:(op==1)=false:=bE;have HW:=aa (Bu (ps:=ps) (args:=args) (n:=n) (un:=un) (nm:=nm) (l:=ar) ho);have PM:=aa (fun y (hy:cE y≤N)=>WS (ps:=ps) hao N y hy);clear ho HHd hal;go_enter func151,ntmps151;go_upto_region 1 with fail;generalize (((w.alloc (.cells #[bU op,bU n,bV un,bV nm,bW A2 ar c2] 47)).alloc (.cells #[bV fn,bW PA ps pd,bU fo,bU fm,bV fu,bV fq,bW FB fk fc] 69)).alloc (.cells #[bU 0,bU 0,bV ⟨#[]⟩,bV ⟨#[]⟩,cD,bU 0,bU 0,.bool false] 176))=w3 at Bb ⊢;have z0:=Bb.o.b0.cell;go_wp2_with fail;clear z0;go_loopw [7,24] (fun v7 s24 wr=>∃ (k:Nat) (v:Value) (acc:List dh),k≤ar.length∧s24=bU (k:Int)∧v=v7∧Hid (Ju S0 w [bU op,bU n,bV un,bV nm,bW A2 ar c2] [bV fn,bW PA ps pd,bU fo,bU fm,bV fu,bV fq,bW FB fk fc] v7 acc wr)∧Hid (acc.length=k∧∀ z∈acc,pX z)∧Hid (sS ps args ar []=sS ps args (ar.drop k) acc)) (fun _ s24 _=>ar.length - (intOf s24).toNat);(case atStart=>exact⟨0,_,[],aaG _,rfl,rfl,Bb,aa ⟨rfl,fun z hz=>by simp at hz⟩,aa (by rw[List.drop_zero])⟩);clear Bb;obtain⟨k,v,acc,hk,rfl,rfl,Bb,gY,HA⟩:=hrel;by_cases hlt:k<ar.length
   ·obtain⟨bl,o,cs,hA,_,hbl,ey,CY⟩:=HI.o.get hlt;subst hA;have cM:∀ i v,cs[i]? =some v→b_ wr bl (o+k*5+i) v:=fun i v h=>(Bb.o.low.cell (p:=bY bl (o+k*5+i)) hbl).trans (CY i v h);clear CY;have hsub:=HSub.o _ (aan hlt);have hdr:=List.drop_eq_getElem_cons hlt;have WT:=PM.o _ hsub.2;have um:=aa (fun W (hb:Below w w W)=>ih _ hsub.2 hsub.1 W cs (ey.keep (cB.cA hb)) (aaC hB0 hb.size) (HSP.o.bZ hb) (HSA.o.bZ hb));rw[hdr,yy]at HA;obtain⟨eR,yn,eT,eU,A3,c3,yr,oh,hes,_⟩:=cH.parts ey;generalize ar[k]=y at um HA WT;subst hes;have g0:b_ wr bl (o+k*5) (bU eR):=cM 0 _ rfl;have g1:b_ wr bl (o+k*5+1) (bU yn):=cM 1 _ rfl;have g2:b_ wr bl (o+k*5+2) (bV eT):=cM 2 _ rfl;have g3:b_ wr bl (o+k*5+3) (bV eU):=cM 3 _ rfl;have g4:b_ wr bl (o+k*5+4) (bW A3 yr c3):=cM 4 _ rfl;have z1:=Bb.o.b1.cell;have hsz:=Bb.o.size;have hp1:w.heap.size+1<wr:=af;generalize lF ps args y=z at um HA WT;clear cM hsub hdr ey oh ih;have fO:Below wr wr (wr.alloc (.cells #[bU eR,bU yn,bV eT,bV eU,bW A3 yr c3] 47)):=cS _;have HIH1:=aa (um.o _ (Bb.o.low.trans (fO.mono Bb.o.low.size)));have Z7:=aa (Bb.o.bZ fO);have hown:∀ g,v.ownBlock=some g→w.heap.size+1+1+1≤g∧g<wr.heap.size:=fun g e=>Bb.o.own.lt g e;have PN:=aa hown;clear fO Bb um hown;go_wp2_with fail;refine HIH1.o.mono ?_;rintro e w5 ⟨cz,rfl,hz,ew⟩;obtain⟨es,e,hie⟩:=hz;obtain⟨ku,zn,kA,kB,A4,c4,zr,Ai,hes,_⟩:=hie.parts;have HX:=aa hie;subst hes e;obtain⟨zx,zN,zL,zF⟩:=z;have Jg:(wr.alloc (.cells #[bU eR,bU yn,bV eT,bV eU,bW A3 yr c3] 47)).heap.size=wr.heap.size+1:=ai;rw[Jg]at HX;have WU:=aa (Z7.o.bZ ew);have WV:zx= .mk ku zn kA kB zr:=Ai;have HYO:=aa WT;clear ew Z7 HIH1 Jg g0 g1 g2 g3 g4 z1 hie WT;have hs5:=WU.o.size;cases zF with
    |true=>
     have WW:=aa (WU.o.bZ (cS (.cells #[.int .i64 ku,.int .i64 zn,bV kA,bV kB,bW A4 zr c4,.int .i64 zN,.int .i64 zL,.bool true] 176)));obtain⟨wF,qE,qF,kF,pZ⟩:=CX WW.o.b2 rfl (.int .i64 ku) (.int .i64 zn) (bV kA) (bV kB) (bW A4 zr c4) (.int .i64 zN) (.int .i64 zL) (.bool true);have zF:=qF.cell;have HE:=aa (show pY (fun b=>S0 b) (lF ps args (.mk op n un nm ar)) w (.returned (.agg #[.int .i64 ku,.int .i64 zn,bV kA,bV kB,bW A4 zr c4,.int .i64 zN,.int .i64 zL,.bool true])) wF by
      rw[HW.o,HA.o,if_pos rfl];have hk:cB (fun b=>S0 b∨wr.heap.size+1≤b) w5 wF:=(cB.cA (cS _)).trans ⟨kF.1,fun b hb h=>kF.2 b hb (by rcases h with h|h;have:=hS0 b h;omega;omega)⟩;exact⟨_,rfl,⟨[_,_,_,_,_],rfl,(HX.o.keep hk).mono fun b _ h=>h.elim .inl fun h=> .inr af⟩,pZ _ _ WW.o.low af⟩)
     have r6:=aa qE;have z2:=WW.o.b2.cell;have f2:=WW.o.b2.frozen;clear qE qF kF pZ HX HA HW Ai WV;go_wp2_with fail;rw[← r6.o];exact bodyPost_ret (by simp[results,results151,go_sem,zF]) rfl (HP.o _ _ HE.o)
    |false=>
     have rY:=aa (show sS ps args ar []=sS ps args (ar.drop (k+1)) (acc++[⟨zx,zN,zL,false⟩])from HA.o);have WW:=aa (WU.o.bZ (cS (.cells #[bU ku,bU zn,bV kA,bV kB,bW A4 zr c4,bU zN,bU zL,.bool false] 176)));have hs6:=WW.o.size;have E6:Hid (eY.is (w5.alloc (.cells #[bU ku,bU zn,bV kA,bV kB,bW A4 zr c4,bU zN,bU zL,.bool false] 176)) (fun b=>(S0 b∨w.heap.size+1+1+1≤b)∧some b≠v.ownBlock) [bU ku,bU zn,bV kA,bV kB,bW A4 zr c4,bU zN,bU zL,.bool false] ⟨zx,zN,zL,false⟩):=
      aa ⟨[_,_,_,_,_],rfl,(HX.o.mono (S':=fun b=>(S0 b∨w.heap.size+1+1+1≤b)∧some b≠v.ownBlock) fun b _ h=>⟨h.elim .inl fun h=> .inr af,fun e=>by have:=PN.o b e.symm;rcases h with h|h;have:=hS0 b h;omega;omega⟩).keep (cB.cA (cS _))⟩
     clear HX HA Ai WV;go_wp2_with (at_builtin;refine dz (R:=eY) (S:=fun b=>S0 b∨w.heap.size+1+1+1≤b) (xs:=acc) (ys:=[⟨zx,zN,zL,false⟩]) (T:=176) (t:=237) (B:=w.heap.size+1+1+1) rfl (.tmp 35) (.tmp 37) 237 rfl rfl Jt (WW.o.own.bZ (cS _)) rfl _ 1 1 rfl rfl ?hN ?hl ?hB rfl (n:=acc.length+1) rfl ?_);(case hN=>exact qQ.iM (R:=eY) (cs:=[bU ku,bU zn,bV kA,bV kB,bW A4 zr c4,bU zN,bU zL,.bool false]) E6.o _ ai);(case hl=>rw[gY.o.1];omega);(case hB=>first|omega|(simp only[aaI];omega));intro A9 c9 w9 Ba HG;have HP9:=aa (WW.o.more HG.o);have WX:=aa (show(acc++[(⟨zx,zN,zL,false⟩:dh)]).length=k+1∧∀ z∈acc++[(⟨zx,zN,zL,false⟩:dh)],pX z from⟨by rw[aao,gY.o.1];rfl,fun z hz=>by
      rcases aar.1 hz with hz|hz
      (·exact gY.o.2 z hz);rw[aau.1 hz];exact HYO.o⟩)
     clear HG WW E6 WU gY HYO;go_wp2;go_roundw;exact⟨k+1,_,_,by omega,rfl,rfl,HP9,WX,rY⟩;simp[intOf];omega
   (obtain rfl:k=ar.length:=by omega);have HW2:=aa (show lF ps args (.mk op n un nm ar)=xO op n un nm 1 1 [] acc by rw[HW.o,HA.o,List.drop_length];rfl);obtain⟨Av,cv,hv,_,_⟩:=Bb.o.own.slice;subst hv;have hs:=Bb.o.size;have HJ:=aa (E5 (fun b=>S0 b∨w.heap.size+1+1+1≤b) op n un nm A2 ar.length c2 Av cv acc wr (Bb.o.own.sq fun b _ h=> .inr h) (by rw[gY.o.1];omega) gY.o.2);have z0:=Bb.o.b0.cell;clear HA HW;go_wp2_with fail;refine HJ.o.mono ?_;rintro e w5 ⟨cz,rfl,hz,ew⟩;generalize xO op n un nm 1 1 [] acc=z at hz HW2;obtain⟨es,e,hie⟩:=hz;obtain⟨ku,zn,kA,kB,A4,c4,zr,Ai,hes,_⟩:=hie.parts;have HX:=aa hie;subst hes e;obtain⟨zx,zN,zL,zF⟩:=z;have WU:=aa (Bb.o.bZ ew);obtain⟨wF,qE,qF,kF,pZ⟩:=CX WU.o.b2 rfl (.int .i64 ku) (.int .i64 zn) (bV kA) (bV kB) (bW A4 zr c4) (.int .i64 zN) (.int .i64 zL) (.bool zF);have zz:=qF.cell;have HE:=aa (show pY (fun b=>S0 b) (lF ps args (.mk op n un nm ar)) w (.returned (.agg #[.int .i64 ku,.int .i64 zn,bV kA,bV kB,bW A4 zr c4,.int .i64 zN,.int .i64 zL,.bool zF])) wF by
    rw[HW2.o];have hk:cB (fun b=>(S0 b∨w.heap.size+1+1+1≤b)∨wr.heap.size≤b) w5 wF:=⟨kF.1,fun b hb h=>kF.2 b hb (by rcases h with(h|h)|h;have:=hS0 b h;omega;omega;omega)⟩;exact⟨_,rfl,⟨[_,_,_,_,_],rfl,(HX.o.keep hk).mono fun b _ h=>h.elim (fun h=>h.elim .inl fun h=> .inr af) fun h=> .inr af⟩,pZ _ _ WU.o.low af⟩)
   have r6:=aa qE;have z2:=WU.o.b2.cell;have f2:=WU.o.b2.frozen;clear qE qF kF pZ HX HW2 Ai z0;go_wp2_with fail;rw[← r6.o];exact bodyPost_ret (by simp[results,results151,go_sem,zz]) rfl (HP.o _ _ HE.o)
end
section
def Bv (x:cw) (w:World) (e:Ending) (w':World):Prop:=∃ cs,e= .returned (.agg cs.toArray)∧cH w' (fun b=>w.heap.size≤b) cs x∧Below w w w'
structure Gy (w:World) (op n:Int) (un nm:ByteArray) (v:Value) (acc:List cw) (wr:World):Prop where
 b0:cN wr w 47 [bU op,bU n,bV un,bV nm,v]
 b1:cN wr (w+1) 47 [bU 0,bU 0,bV ⟨#[]⟩,bV ⟨#[]⟩,cD]
 own:dO di 47 (w+1+1) wr (fun b=>w.heap.size+1+1≤b) v acc
 low:Below w w wr
 size:w.heap.size+1+1≤wr
section
variable {w wr w':World} {op n:Int} {un nm:ByteArray} {v:Value} {acc:List cw}
theorem Gy.bZ (h:Gy w op n un nm v acc wr) (hb:Below wr wr w'):Gy w op n un nm v acc w':=by
 have hs:=h.size;exact⟨h.b0.bZ hb af,h.b1.bZ hb af,h.own.bZ hb,h.low.trans (hb.mono h.low.size),aaC hs hb.size⟩
theorem Gy.more {o:Obj} {w9:World} {v':Value} {ys:List cw} (h:Gy w op n un nm v acc wr) (G:Grown di 47 (w+1+1) (wr.alloc o) (fun b=>w.heap.size+1+1≤b) v ys w9 v'):Gy w op n un nm v' ys (w9.setCell (bY w 4) v'):=by
 have hs:=h.size;have ha:(wr.alloc o).heap.size=wr.heap.size+1:=ai;have hb:=G.bZ (h.own.bZ (cS o)) af;have hz:(w9.setCell (bY w 4) v').heap.size=w9.heap.size:=bH;have hb2:=hb.size;have k:cB (fun b=>b≠w.heap.size) w9 (w9.setCell (bY w 4) v'):=lq ai;have blk:∀ {g t:Nat} {cs:List Value},g<w.heap.size+1+1→cN wr g t cs→cN w9 g t cs:=fun h1 h2=>(hb.block _ h1).trans ((heap_alloc_old _ _ af).trans h2);refine⟨(blk af h.b0).eB 4 v',(k.2 _ af af).trans (blk af h.b1),?_,?_,by rw[hz];omega⟩
 (·have hg:w9.grownBy (w9.setCell (bY w 4) v') (some w.heap.size):=⟨rfl,rfl,rfl,by rw[hz];omega,fun b hb hr=>k.2 b hb fun e=>hr (by rw[e])⟩;exact G.own.grown hg (fun r e=>by injection e with e;omega) (fun b hb e=>by injection e with e;omega));exact((h.low.alloc h.low.size o).trans (hb.mono af)).setCell (by show w.heap.size≤w;omega) _
end
theorem Jw {W:World} {p t:Nat} {c0 c1 c2 c3 c4:Value} (h:cN W p t [c0,c1,c2,c3,c4]) (u0 u1 u2 u3 u4:Value):∃ wF,wF=(((((W.setCell (bY p 0) u0).setCell (bY p 1) u1).setCell (bY p 2) u2).setCell (bY p 3) u3).setCell (bY p 4) u4)∧cN wF p t [u0,u1,u2,u3,u4]∧cB (fun b=>b≠p) W wF∧∀ B w,Below B w W→B≤p→Below B w wF:=by
 refine⟨_,rfl,?_,?_,fun B w hb hp=>?_⟩
 (·exact(((((h.eB 0 _).eB 1 _).eB 2 _).eB 3 _).eB 4 _))
 (·have k:∀ {W:World} {i:Nat} {u:Value},cB (fun b=>b≠p) W (W.setCell (bY p i) u):=lq ai;exact k.trans (k.trans (k.trans (k.trans k))));(repeat refine Below.setCell ?_ (by exact hp) _);exact hb
theorem Jx (N:Nat) (hN:N≤1000000):∀ (x:cw),cE x≤N→∀ (w:World) (cs:List Value),cH w Any cs x→Calls prog 91 #[.agg cs.toArray] w (Bv x w):=by
 induction N with
 |zero=>intro x hx;have:=dB x;omega
 |succ N ih=>
  intro x hx w cs hI
  replace ih:=ih af
  generalize hP:Bv x w=P
  have HP:=aa (show ∀ e w',Bv x w e w'→P e w' from fun e w' h=>hP▸h)
  clear hP
  obtain⟨op,n,un,nm,A2,c2,ar,e1,e2,hS⟩:=cH.parts hI
  subst e1 e2
  have vE:cE (.mk op n un nm ar)=1+cT ar:=by unfold cE;rfl
  have hnl:=fN ar
  have har:ar.length≤1000000:=by omega
  have HSub:=aa (fun y (hy:y∈ar)=>(show cE y≤N by have:=dP ar y hy;omega))
  have HI:=aa hS
  have xP:Hid (Gy w op n un nm cD [] ((w.alloc (.cells #[bU op,bU n,bV un,bV nm,cD] 47)).alloc (.cells #[bU 0,bU 0,bV ⟨#[]⟩,bV ⟨#[]⟩,cD] 47))):=by
   have a1:(w.alloc (.cells #[bU op,bU n,bV un,bV nm,cD] 47)).heap.size=w.heap.size+1:=ai;have k1:=heap_alloc_new (w.alloc (.cells #[bU op,bU n,bV un,bV nm,cD] 47)) (.cells #[bU 0,bU 0,bV ⟨#[]⟩,bV ⟨#[]⟩,cD] 47);rw[a1]at k1;exact aa ⟨(heap_alloc_old _ _ aU).trans (heap_alloc_new w _),k1,dO.ql,(cS _).alloc aU _,by rw[aaI,a1];omega⟩
  clear hI hS vE hnl hx
  go_enter func91,ntmps91
  go_upto_region 3 with fail
  generalize ((w.alloc (.cells #[bU op,bU n,bV un,bV nm,cD] 47)).alloc (.cells #[bU 0,bU 0,bV ⟨#[]⟩,bV ⟨#[]⟩,cD] 47))=w3 at xP ⊢
  go_wp2_with fail
  go_loopw [11] (fun s11 wr=>∃ (k:Nat) (v:Value) (acc:List cw),k≤ar.length∧s11=bU (k:Int)∧Hid (Gy w op n un nm v acc wr)∧Hid (acc.length=k)∧Hid (acc=ar.take k)) (fun s11 _=>ar.length - (intOf s11).toNat)
  case atStart=>exact⟨0,_,[],aaG _,rfl,xP,aa rfl,aa (by rw[List.take_zero])⟩
  case round=>
   clear xP;obtain⟨k,v,acc,hk,rfl,xP,gY,HA⟩:=hrel;by_cases hlt:k<ar.length
   (·obtain⟨bl,o,cs,hA,_,hbl,ey,CY⟩:=HI.o.get hlt;subst hA;have cM:∀ i v,cs[i]? =some v→b_ wr bl (o+k*5+i) v:=fun i v h=>(xP.o.low.cell (p:=bY bl (o+k*5+i)) hbl).trans (CY i v h);clear CY;have hsub:=HSub.o _ (aan hlt);have HIH0:=aa (fun W (hb:Below w w W)=>ih _ hsub W cs (ey.keep (cB.cA hb)));have nZ:=aa (show ar.take (k+1)=ar.take k++[ar[k]]from aaz hlt);obtain⟨eR,yn,eT,eU,A3,c3,yr,oh,hes,_⟩:=cH.parts ey;generalize ar[k]=y at HIH0 nZ;subst hes;have g0:b_ wr bl (o+k*5) (.int .i64 eR):=cM 0 _ rfl;have g1:b_ wr bl (o+k*5+1) (.int .i64 yn):=cM 1 _ rfl;have g2:b_ wr bl (o+k*5+2) (bV eT):=cM 2 _ rfl;have g3:b_ wr bl (o+k*5+3) (bV eU):=cM 3 _ rfl;have g4:b_ wr bl (o+k*5+4) (bW A3 yr c3):=cM 4 _ rfl;have fO:Below wr wr (wr.alloc (.cells #[.int .i64 eR,.int .i64 yn,bV eT,bV eU,bW A3 yr c3] 47)):=cS _;have Z7:=aa (xP.o.bZ fO);have HY:=aa (show cN (wr.alloc (.cells #[.int .i64 eR,.int .i64 yn,bV eT,bV eU,bW A3 yr c3] 47)) wr 47 [.int .i64 eR,.int .i64 yn,bV eT,bV eU,bW A3 yr c3]from heap_alloc_new wr _);have PN:=aa (fun g (e:v.ownBlock=some g)=>xP.o.own.lt g e);have hsz:=xP.o.size;clear cM hsub ey oh ih fO xP;go_upto_region 6 with fail;generalize hwd:(wr.alloc (.cells #[.int .i64 eR,.int .i64 yn,bV eT,bV eU,bW A3 yr c3] 47))=wd at Z7 HY ⊢;have Lg:=aa (show wr.heap.size<wd by rw[← hwd];simp);have hwd1:wd.heap.size=wr.heap.size+1:=(by rw[← hwd];simp);clear hwd g0 g1 g2 g3 g4;have PB:=aa (show Gy w op n un nm v acc wd.drew from Z7.o.bZ dX.jo);have um:=aa (HIH0.o wd.drew PB.o.low);have Lg:=aa (show wr.heap.size<wd.drew.heap.size from Lg.o);have HY:=aa (fun j=>(HY.o.cell j:wd.cell? (bY wr j)=_));have HNw:=aa (fun(w3:World) (cz:List Value) (h:cH w3 (fun b=>wd.drew.heap.size≤b) cz y) (e:di.k=5)=>(qQ.iM (R:=di) (cs:=cz) h 47 rfl).mono fun b hb h=>(⟨by have:wd.heap.size≤b:=h;omega,fun e=>by have:=(PN.o b e.symm).2;have:wd.heap.size≤b:=h;omega⟩:(w.heap.size+1+1≤b)∧some b≠v.ownBlock));have yS:b_ wd w 4 v∧∀ j,wd.cell? (bY wr j)=([.int .i64 eR,.int .i64 yn,bV eT,bV eU,bW A3 yr c3]:List Value)[j]? :=⟨Z7.o.b0.cell 4,HY.o⟩;refine cV (S:=fun w'=>b_ w' w 4 v∧∀ j,w'.cell? (bY wr j)=([.int .i64 eR,.int .i64 yn,bV eT,bV eU,bW A3 yr c3]:List Value)[j]?) [0,2,1,6] [(0,false),(2,false),(1,false),(3,true),(4,true),(5,true),(6,false),(7,true)] ah ah aq rfl ah (yS) ?_;(iterate 3 refine hwr ?_);refine hwt fun K hK=>?_;go_simp;refine(um.o).mono ?_;rintro e w3 ⟨cz,rfl,hz,hb3⟩;obtain⟨ku,zn,kA,kB,A4,c4,zr,Ai,hes,_⟩:=cH.parts hz;subst hes;have HX3:=aa hz;have Ml:=aa (PB.o.bZ hb3);have eF:=aa hb3;clear hz hb3 Ai;refine hK.o _ _ (⟨Ml.o.b0.cell 4,fun j=>(eF.o.cell (p:=bY wr j) (by exact Lg.o)).trans (HY.o j)⟩) ?_;clear hK K;refine hwt fun K hK=>?_;go_simp;refine hK.o _ _ (⟨(Ml.o.bZ (cS _)).b0.cell 4,fun j=>((aaf w3 w3).alloc aac _ |>.cell (p:=bY wr j) (by have:=eF.o.size;have:=Lg.o;show wr.heap.size<_;omega)).trans ((eF.o.cell (p:=bY wr j) (by exact Lg.o)).trans (HY.o j))⟩) ?_;clear hK K;refine hwt fun K hK=>?_;refine kL (R:=di) (S:=fun b=>w.heap.size+1+1≤b) (xs:=acc) (ys:=[y]) (T:=47) (t:=45) (B:=w.heap.size+1+1) rfl (.tmp 16) (.tmp 19) _ rfl rfl Ot (Ml.o.own.bZ (cS _)) rfl _ 1 1 rfl rfl (HNw.o w3 _ HX3.o rfl) (by rw[gY.o];omega) (by have:=Ml.o.size;rw[aaI];omega) rfl (n:=acc.length+1) rfl ?_;intro A9 c9 w9 Ba HG;have HP9:=aa (Ml.o.more HG.o);have l9:=HG.o.bZ (Ml.o.own.bZ (cS _)) (by have:=Ml.o.size;rw[aaI];omega);have k9:cN w9 w 47 [.int .i64 op,.int .i64 n,bV un,bV nm,v]:=(l9.block _ af).trans ((heap_alloc_old _ _ (by have:=Ml.o.size;omega)).trans Ml.o.b0);have f9:=k9.frozen;have cc9:=k9.cell;refine hK.o _ _ (⟨k9.cell 4,fun j=>(World.cell?_of_block (a:=bY wr j) (HG.o.turn.block _ (by have:=eF.o.size;have:=Lg.o;rw[aaI];show wr.heap.size<_;omega) (fun e=>absurd (PN.o wr e.symm).2 (Nat.lt_irrefl _)))).trans (((aaf w3 w3).alloc aac _ |>.cell (p:=bY wr j) (by have:=eF.o.size;have:=Lg.o;show wr.heap.size<_;omega)).trans ((eF.o.cell (p:=bY wr j) (by exact Lg.o)).trans (HY.o j)))⟩) ?_;clear hK K;refine hwr ?_;refine xN fun K hK=>?_;go_simp;refine hK.o _ _ ?_;clear hK K;refine eD ?_;(try go_frame);have WX:=aa (show(acc++[y]).length=k+1 by rw[aao,gY.o];rfl);have ZM:=aa (show acc++[y]=ar.take (k+1) by rw[nZ.o,HA.o]);clear PB um Ml eF HX3 l9 k9 f9 cc9 HG HY HNw yS Z7;go_wp2;go_roundw;exact⟨k+1,_,acc++[y],by omega,rfl,HP9,WX,ZM⟩;simp[intOf];omega);(obtain rfl:k=ar.length:=by omega);rw[List.take_length]at HA;have hac:=HA.o;subst hac;obtain⟨Av,cv,hv,_,_⟩:=xP.o.own.slice;subst hv;have hs:=xP.o.size;obtain⟨wF,qE,qF,kF,pZ⟩:=Jw xP.o.b1 (.int .i64 op) (.int .i64 n) (bV un) (bV nm) (bW Av acc cv);have HE:=aa (show Bv (.mk op n un nm acc) w (.returned (.agg #[.int .i64 op,.int .i64 n,bV un,bV nm,bW Av acc cv])) wF by
    have hq:Sq di wr (fun b=>w.heap.size+1+1≤b) Av acc:=xP.o.own.sq fun b _ h=>h;have hk:cB (fun b=>w.heap.size+1+1≤b) wr wF:=⟨kF.1,fun b hb h=>kF.2 b hb af⟩;exact⟨_,rfl,.of ((hq.keep hk).mono fun b _ h=>by omega),pZ _ _ xP.o.low af⟩)
   have z0:=xP.o.b0.cell;have z1:=xP.o.b1.cell;have f1:=xP.o.b1.frozen;have zz:=qF.cell;have r6:=aa qE;have hp1:w.heap.size+1<wr:=af;clear qE qF kF pZ HA HI;go_wp2_with fail;rw[← r6.o];exact bodyPost_ret (by simp[results,results91,go_sem,zz]) rfl (HP.o _ _ HE.o)
end
section
mutual
def eZ (G:Nat→dh) (fs:List cL):cw→dh
 | .mk op n un nm l=>
  if op=3 then
   (if(G (findF fs nm).toNat).full then lu
    else match fs[(findF fs nm).toNat]? with
     |some f=>lF f.params (j9 G fs l) (G (findF fs nm).toNat).x
     |none=>lu)
  else xO op n un nm 1 1 [] (j9 G fs l)
def j9 (G:Nat→dh) (fs:List cL):List cw→List dh
 |[]=>[]
 |y :: l=>eZ G fs y :: j9 G fs l
end
theorem jS {G:Nat→dh} {fs:List cL}:∀ l:List cw,j9 G fs l=l.map (eZ G fs)
 |[]=>by unfold j9;rfl
 |y :: l=>by unfold j9;rw[jS l];rfl
theorem rz {G G':Nat→dh} {fs:List cL} (N:Nat):∀ (x:cw),cE x≤N→(∀ j∈fT fs x,G j=G' j)→eZ G fs x=eZ G' fs x:=by
 induction N with
 |zero=>intro x hx;have:=dB x;omega
 |succ N ih=>
  intro x hx h;cases x with
  |mk op n u nm l=>
   have vE:cE (.mk op n u nm l)=1+cT l:=aM;have hl:j9 G fs l=j9 G' fs l:=by
    rw[jS,jS];exact List.map_congr_left fun y hy=>ih y aQ fun j hj=>h j (by unfold fT;exact List.mem_append_right _ (yw hy hj))
   unfold eZ;by_cases ho:op=3
   (·rw[if_pos ho,if_pos ho,hl,h _ (by unfold fT;rw[if_pos ho];simp)]);rw[if_neg ho,if_neg ho,hl]
def Tq (fs:List cL) (G:Nat→dh):Prop:=∀ (i:Nat) (f:cL),fs[i]? =some f→G i=eZ G fs f.body
def oL (fs:List cL):Nat→Nat→dh
 |0,_=>lu
 |k+1,i=>match fs[i]? with
  |some f=>eZ (oL fs k) fs f.body
  |none=>lu
def yz (fs:List cL) (r:Nat→Nat):Prop:=∀ (i:Nat) (f:cL),fs[i]? =some f→∀ j∈fT fs f.body,r j<r i
theorem Gz {fs:List cL} {r:Nat→Nat} (hr:yz fs r) (n:Nat):∀ (i k m:Nat),r i<n→r i<k→r i<m→oL fs k i=oL fs m i:=by
 induction n with
 |zero=>intro i k m h;omega
 |succ n ih=>
  intro i k m h1 h2 h3;obtain⟨k,rfl⟩:∃ k',k=k'+1:=⟨k - 1,by omega⟩;obtain⟨m,rfl⟩:∃ m',m=m'+1:=⟨m - 1,by omega⟩;unfold oL;cases hf:fs[i]? with
  |none=>rfl
  |some f=>
   refine rz _ f.body aac fun j hj=>?_;have:=hr i f hf j hj;exact ih j k m af af af
theorem Jy {fs:List cL} {r:Nat→Nat} (hr:yz fs r):∃ G,Tq fs G:=by
 refine⟨fun i=>oL fs (r i+1) i,fun i f hf=>?_⟩;show oL fs (r i+1) i=_;(conv=>lhs;unfold oL);rw[hf];refine rz _ f.body aac fun j hj=>?_;have:=hr i f hf j hj;exact Gz hr (r j+1) j _ _ af af af
theorem Tr {fs:List cL} (hb:Jo fs) (h:Gw fs=false):∃ r,yz fs r:=by
 have h0:rq fs (aaw fs.length 0):=by
  have hz:∀ i,(aaw fs.length (0:Int)).getD i 0=0:=fun i=>by
   rw[aam,List.getElem?_replicate];split<;>rfl
  exact⟨by simp,fun i=> .inl (hz i),fun _=>0,fun i f h2=>by rw[hz]at h2;exact absurd h2 ak⟩
 have hw:=E4 (fs:=fs) (z:=fs.length) (p:=fun st i=>Ec fs (fs.length+1) st i) (D:=fun i=>[i]) (aav fs.length) (fun i hi s hs hz hn=>by
  obtain⟨h1,h2⟩:=Tn hb (fs.length+1) s i (List.mem_range.1 hi) hs af hn;exact⟨h1,(E2 fs s.length _ _ s _ ⟨rfl,hz⟩).2,fun j hj=>by rw[aau.1 hj];exact h2⟩) _ h0 (aaC List.countP_le_length ai) h
 obtain⟨⟨w1,_,_⟩,_,w4⟩:=hw;obtain⟨r,hr⟩:=w1.PI;refine⟨r,fun i f hf j hj=>(hr i f (w4 i (List.mem_range.2 (List.getElem?_eq_some_iff.1 hf).1) i ai) hf j hj).2⟩
def E7 (y:dh):Prop:=y.full=false→(cE y.x:Int)=y.nodes
theorem rA:∀ (a b:List cw),cT (a++b)=cT a+cT b
 |[],b=>by simp[cT]
 |x :: a,b=>by simp only[List.cons_append,cT,rA a b];omega
theorem GA {op n:Int} {un nm:ByteArray}:∀ (l:List dh) (a b:Int) (acc:List cw),(1+cT acc:Int)=a→(∀ y∈l,E7 y)→E7 (xO op n un nm a b acc l)
 |[],a,b,acc,h,_=>fun _=>by
  show((cE (.mk op n un nm acc):Nat):Int)=a;rw[← h];unfold cE;omega
 |y :: l,a,b,acc,h,hy=>by
  unfold xO;split
  (·intro hf;cases hf);next hc=>
  have hyf:y.full=false:=(by cases hf:y.full<;>simp_all);have h1:=hy y ai hyf;exact GA l _ _ _ (by rw[rA];simp only[cT];omega) fun z hz=>hy z (by simp[hz])
theorem PO:E7 lu:=fun h=>by cases h
theorem CZ {ps:List eX} {args:List dh} {Q:dh→Prop}:∀ (l:List cw) (acc:List dh),(∀ y∈l,Q (lF ps args y))→(∀ z∈acc,Q z)→match sS ps args l acc with| .inl z=>Q z| .inr r=>∀ z∈r,Q z
 |[],acc,_,h=>by unfold sS;exact h
 |y :: l,acc,hy,h=>by
  rw[yy];by_cases hf:(lF ps args y).full=true
  (·rw[if_pos hf];exact hy y ai);rw[if_neg hf];exact CZ l _ (fun z hz=>hy z (by simp[hz])) fun z hz=>by
   rcases aar.1 hz with hz|hz
   (·exact h z hz);rw[aau.1 hz];exact hy y ai
theorem Ts {ps:List eX} {args:List dh} {Q:dh→Prop} (hfull:Q lu) (ha:∀ y∈args,Q y) (hj:∀ (op n:Int) (un nm:ByteArray) (r:List dh),¬op=1→(∀ z∈r,Q z)→Q (xO op n un nm 1 1 [] r)) (N:Nat):∀ (x:cw),cE x≤N→Q (lF ps args x):=by
 induction N with
 |zero=>intro x hx;have:=dB x;omega
 |succ N ih=>
  intro x hx;cases x with
  |mk op n u nm l=>
   have hn:cE (.mk op n u nm l)=1+cT l:=aM;by_cases h:op=1
   ·subst h;rw[ud];by_cases hj:(nh ps nm).toNat<args.length
    (·rw[aam,List.getElem?_eq_getElem hj];exact ha _ (aan hj));rw[aam,List.getElem?_eq_none af];exact hfull
   rw[Bu h];have h2:=CZ (Q:=Q) (ps:=ps) (args:=args) l [] (fun y hy=>ih y aQ) (fun z hz=>by simp at hz);cases hp:sS ps args l []with
   |inl z=>rw[hp]at h2;exact h2
   |inr r=>rw[hp]at h2;exact hj op n u nm r h h2
theorem C0 {G:Nat→dh} {fs:List cL} {Q:dh→Prop} {ok:cw→Prop} (hok:∀ op n u nm l,ok (.mk op n u nm l)→∀ y∈l,ok y) (hfull:Q lu) (hj:∀ (op n:Int) (un nm:ByteArray) (r:List dh),¬op=1→(∀ z∈r,Q z)→Q (xO op n un nm 1 1 [] r)) (hj1:∀ (n:Int) (un nm:ByteArray) (l:List cw) (r:List dh),ok (.mk 1 n un nm l)→(∀ z∈r,Q z)→Q (xO 1 n un nm 1 1 [] r)) (N:Nat):∀ (x:cw),cE x≤N→ok x→Q (eZ G fs x):=by
 induction N with
 |zero=>intro x hx;have:=dB x;omega
 |succ N ih=>
  intro x hx ho;cases x with
  |mk op n u nm l=>
   have hn:cE (.mk op n u nm l)=1+cT l:=aM;have hl:∀ z∈j9 G fs l,Q z:=fun z hz=>by
    rw[jS]at hz;obtain⟨y,hy,rfl⟩:=aat.1 hz;exact ih y aQ (hok _ _ _ _ _ ho y hy)
   unfold eZ;by_cases h3:op=3
   ·rw[if_pos h3];split
    (·exact hfull);split
    (·exact Ts hfull hl hj _ _ aac);exact hfull
   rw[if_neg h3];by_cases h1:op=1
   (·subst h1;exact hj1 n u nm l _ ho hl);exact hj op n u nm _ h1 hl
theorem ue {G:Nat→dh} {fs:List cL} (x:cw):pX (eZ G fs x):=
 C0 (Q:=pX) (ok:=fun _=>True) (fun _ _ _ _ _ _ _ _=>trivial) Js (fun _ _ _ _ r _ h=>Gx r 1 1 [] ak ak ak ak h) (fun _ _ _ _ r _ h=>Gx r 1 1 [] ak ak ak ak h) _ x aac trivial
theorem wM {G:Nat→dh} {fs:List cL} (x:cw):E7 (eZ G fs x):=
 C0 (Q:=E7) (ok:=fun _=>True) (fun _ _ _ _ _ _ _ _=>trivial) PO (fun _ _ _ _ r _ h=>GA r 1 1 [] rfl h) (fun _ _ _ _ r _ h=>GA r 1 1 [] rfl h) _ x aac trivial
theorem yA {p:cw→Bool} {op n:Int} {u nm:ByteArray} {l:List cw} (h1:p (.mk op n u nm l)=false) (h2:∀ y∈l,dK p y=false):dK p (.mk op n u nm l)=false:=by
 rw[lQ,h1,Bool.false_or];(exact List.any_eq_false.2 fun y hy=>by rw[h2 y hy];simp)
theorem yC {ps:List eX} {op n:Int} {un nm:ByteArray} (h:∀ l,iU ps (.mk op n un nm l)=false):∀ (l:List dh) (a b:Int) (acc:List cw),(∀ y∈acc,dK (iU ps) y=false)→(∀ y∈l,dK (iU ps) y.x=false)→dK (iU ps) (xO op n un nm a b acc l).x=false
 |[],a,b,acc,ha,_=>yA (h _) ha
 |y :: l,a,b,acc,ha,hy=>by
  unfold xO;split
  (·(exact yA rfl fun y hy=>by simp at hy));exact yC h l _ _ _ (fun z hz=>by
   rcases aar.1 hz with hz|hz
   (·exact ha z hz);rw[aau.1 hz];exact hy y ai) fun z hz=>hy z (by simp[hz])
theorem Mt {G:Nat→dh} {fs:List cL} {ps:List eX} (x:cw) (h:dK (iU ps) x=false):dK (iU ps) (eZ G fs x).x=false:=
 C0 (Q:=fun y=>dK (iU ps) y.x=false) (ok:=fun x=>dK (iU ps) x=false) (fun op n u nm l h y hy=>kr h (by exact hy)) (yA rfl fun y hy=>by simp at hy)
  (fun op n un nm r h1 hr=>yC (fun l=>by show(op==1&&_)=false;rw[show(op==1)=false by simpa using h1];rfl) r 1 1 [] (fun y hy=>by simp at hy) hr)
  (fun n un nm l r ho hr=>yC (fun l'=>(jD ho:iU ps (.mk 1 n un nm l)=false)) r 1 1 [] (fun y hy=>by simp at hy) hr) _ x aac h
end
end
section
open Go Go.RowKit Go.Maps
section
def C1 (k:Int):Go.Lit:=Lit.int .i64 k
theorem GC {k k':Int} (h:k'≠k):C1 k'≠C1 k:=fun e=>h (by
 unfold C1 at e;injection e)
theorem Tt (k:Int):WideAt.IsKeyLit (C1 k):=by unfold C1;simp[WideAt.IsKeyLit]
def jb (w:World) (g n:Nat) (f:Int→Option Value):Prop:=
 ∃ D:DataW Value,w.ownsMap prog 3 kX g n D∧IsMap D∧∀ k:Int,Maps.has D (C1 k)=(f k).isSome∧(∀ v z,f k=some v→D.atKey (C1 k) z= .held v)∧(∀ z,f k=none→D.atKey (C1 k) z=z)
theorem Bw:Keyed prog 3:=int_keyed underlying3
section
variable {w w':World} {g n:Nat} {f:Int→Option Value}
theorem jb.made (w:World):jb (w.alloc (.map #[] 0)) w 0 (fun _=>none):=
 ⟨.map [],World.ownsMap_made w _ _ _,⟨[],rfl⟩,fun k=>⟨rfl,fun v z h=>(by cases h),fun z _=>rfl⟩⟩
theorem jb.lt (h:jb w g n f):g<w.heap.size:=by
 obtain⟨D,h1,_⟩:=h;exact h1.lt
theorem jb.bZ {B:Nat} (h:jb w g n f) (hb:Below B w w') (hg:g<B):jb w' g n f:=by
 obtain⟨D,⟨es,clock,hbk,F,hs,hD⟩,h2,h3⟩:=h;exact⟨D,⟨es,clock,(hb.block g hg).trans hbk,F,hs,hD⟩,h2,h3⟩
theorem jb.alloc (h:jb w g n f) (o:Obj):jb (w.alloc o) g n f:=h.bZ (cS _) h.lt
theorem jb.drewN (h:jb w g n f) (k:Nat):jb (w.drewN k) g n f:=h
theorem jb.drew (h:jb w g n f):jb w.drew g n f:=h
theorem jb.cF {p:Addr} (h:jb w g n f) (hp:g≠p.block) (u:Value):jb (w.setCell p u) g n f:=by
 obtain⟨D,⟨es,clock,hbk,F,hs,hD⟩,h2,h3⟩:=h;exact⟨D,⟨es,clock,(Below.heap_setCell w p u g hp).trans hbk,F,hs,hD⟩,h2,h3⟩
theorem jb.mono {m:Nat} (h:jb w g n f) (hm:n≤m):jb w g m f:=by
 obtain⟨D,h1,h2⟩:=h;exact⟨D,h1.mono hm,h2⟩
end
section
variable (w:World) {ops:Array Oper} {rest:List Oper} {o:Oper} {a:Act} {Q:Exit→Act→World→Prop}
theorem wN (hg:o.guard=none) (m x:Operand) (t:TypeId) (hop:o.op=Op.lookup t m x true) (e:TypeId) (ht:Tryz.prog.underlying t=some (.map 3 e)) {z:Value} (hz:(zeroValue e).run prog w= .ok z w) (b n:Nat) (f:Int→Option Value) (hm:a.eval m= .map (some b)) (hown:jb w b n f) (k:Int) (hx:a.eval x=bU k) (hk:(Lit.int .i64 k).wf=true) (u:Value) (hf:f k=some u) (hK:wpList prog ops Q rest (a.put o.dst (.tuple #[u,.bool true])) w):wpList prog ops Q (o :: rest) a w:=by
 obtain⟨D,h1,h2,h3⟩:=hown;obtain⟨p1,p2,p3⟩:=h3 k;refine wpList_lookup_own_ok w hg m x t hop 3 e Bw ht kX hz (.held z) [] rfl b n D hm h1 (bU k) (C1 k) hx (keyOf_int_mk underlying3 hk) (fun v ps hv=>?_);rw[p2 u _ hf]at hv;rw[p1,hf];injection hv with hv;injection hv with hv _;injection hv with hv;subst hv;exact hK
theorem wO (hg:o.guard=none) (m x:Operand) (t:TypeId) (hop:o.op=Op.lookup t m x true) (e:TypeId) (ht:Tryz.prog.underlying t=some (.map 3 e)) {z:Value} (hz:(zeroValue e).run prog w= .ok z w) (b n:Nat) (f:Int→Option Value) (hm:a.eval m= .map (some b)) (hown:jb w b n f) (k:Int) (hx:a.eval x=bU k) (hk:(Lit.int .i64 k).wf=true) (hf:f k=none) (hK:wpList prog ops Q rest (a.put o.dst (.tuple #[z,.bool false])) w):wpList prog ops Q (o :: rest) a w:=by
 obtain⟨D,h1,h2,h3⟩:=hown;obtain⟨p1,p2,p3⟩:=h3 k;refine wpList_lookup_own_ok w hg m x t hop 3 e Bw ht kX hz (.held z) [] rfl b n D hm h1 (bU k) (C1 k) hx (keyOf_int_mk underlying3 hk) (fun v ps hv=>?_);rw[p3 _ hf]at hv;rw[p1,hf];injection hv with hv;injection hv with hv _;injection hv with hv;subst hv;exact hK
theorem qG (hg:o.guard=none) (m x v:Operand) (t:TypeId) (hop:o.op=Op.mapUpdate t m x v) (e:TypeId) (ht:Tryz.prog.underlying t=some (.map 3 e)) (b n:Nat) (f:Int→Option Value) (hm:a.eval m= .map (some b)) (hown:jb w b n f) (hn:n<maxLen) (k:Int) (u:Value) (hx:a.eval x=bU k) (hv:a.eval v=u) (hk:(Lit.int .i64 k).wf=true) (hK:∀ w',jb w' b (n+1) (fun k'=>if k'=k then some u else f k')→w.grownBy w' (some b)→wpList prog ops Q rest (a.put o.dst undef) w'):wpList prog ops Q (o :: rest) a w:=by
 obtain⟨D,h1,h2,h3⟩:=hown;refine wpList_mapUpdate_own w hg m x v t hop 3 e Bw ht kX b n D hm h1 hn (bU k) u (C1 k) hx hv (keyOf_int_mk underlying3 hk) (.held u) [] rfl (fun w' k1 k2=>hK w' ⟨_,k1,?_,fun k'=>?_⟩ k2)
 (·obtain⟨es,rfl⟩:=h2;exact⟨_,rfl⟩);by_cases hkk:k'=k
 ·subst hkk;simp only[if_true];refine⟨has_put_same h2 (Tt k') _,fun v z h=>?_,fun z h=>?_⟩
  (·have hv:u=v:=Option.some.inj h;rw[← hv];exact atKey_put_same h2 (Tt k') _ _);exact absurd h ai
 simp only[if_neg hkk];obtain⟨p1,p2,p3⟩:=h3 k';exact⟨(has_put_other (GC hkk) _).trans p1,fun v z h=>(atKey_put_other (GC hkk) _ _).trans (p2 v z h),fun z h=>(atKey_put_other (GC hkk) _ _).trans (p3 z h)⟩
end
end
end
section
open Go Go.RowKit Bg Go.Proofs Sh Kb
section
def E8 (n:Nat) (f:Int→Option Value):Nat:=(aav n).countP fun i:Nat=>(f (i:Int)).isNone
theorem PR {n:Nat} {f:Int→Option Value} {i:Nat} {u:Value} (hi:i<n) (h:f i=none):E8 n (fun k=>if k=(i:Int)then some u else f k)+1≤E8 n f:=by
 unfold E8;have h1:∀ m,(aav m).countP (fun j:Nat=>((fun k=>if k=(i:Int)then some u else f k) (j:Int)).isNone)+(if i<m then 1 else 0)≤(aav m).countP fun j:Nat=>(f (j:Int)).isNone:=by
  intro m;induction m with
  |zero=>simp
  |succ m ih=>
   rw[List.range_succ,List.countP_append,List.countP_append];simp only[List.countP_cons,List.countP_nil];by_cases hm:m=i
   (·subst hm;simp only[if_true,h,Option.isNone_none,Option.isNone_some,Nat.lt_irrefl,if_false,aaE]at ih ⊢;simp;simpa using ih);have hmi:¬(m:Int)=(i:Int):=af;have e:(if i<m+1 then 1 else 0:Nat)=if i<m then 1 else 0:=by
    by_cases h:i<m
    (·rw[if_pos h,if_pos af]);rw[if_neg h,if_neg af]
   rw[e];simp only[if_neg hmi]at ih ⊢;generalize (if i<m then 1 else 0:Nat)=t at ih ⊢;generalize (if(f (m:Int)).isNone=true then 1 else 0:Nat)=t2;omega
 have:=h1 n;rw[if_pos hi]at this;exact this
structure mM (W0:World) (pe gm:Nat) (FA:Option Addr) (fc:Nat) (fs:List cL) (G:Nat→dh) (S D:Nat→Prop) (W:World):Prop where
 mj:b_ W pe 0 (bW FA fs fc)
 Aj:b_ W pe 1 (.map (some gm))
 memo:∃ n f,jb W gm n f∧n+E8 fs.length f≤fs.length∧∀ (k:Int) (v:Value),f k=some v→∃ (j:Nat) (cs:List Value),k=(j:Int)∧D j∧v= .agg cs.toArray∧eY.is W S cs (G j)
 sQ:pe<W.heap.size
 A_:gm<W.heap.size
 ne:pe≠gm
 sq:Sq gR W (fun b=>b≠gm) FA fs
 o:∀ b,S b→b≠gm
 low:Below gm W0 W
section
variable {W0:World} {pe gm:Nat} {FA:Option Addr} {fc:Nat} {fs:List cL} {G:Nat→dh} {S S' D D':Nat→Prop} {W W':World}
theorem mM.bZ (h:mM W0 pe gm FA fc fs G S D W) (hb:Below W W W'):mM W0 pe gm FA fc fs G S D W':=by
 obtain⟨n,f,h1,h2,h3⟩:=h.memo;exact⟨(hb.cell (p:=bY pe 0) h.sQ).trans h.mj,(hb.cell (p:=bY pe 1) h.sQ).trans h.Aj,⟨n,f,h1.bZ hb h.A_,h2,fun k v hv=>by
  obtain⟨j,cs,a,d,b,c⟩:=h3 k v hv;exact⟨j,cs,a,d,b,eY.keep c (cB.cA hb)⟩⟩,aaD h.sQ hb.size,aaD h.A_ hb.size,h.ne,h.sq.bZ hb,h.o,h.low.trans (hb.mono (Nat.le_of_lt h.A_))⟩
theorem mM.mono (h:mM W0 pe gm FA fc fs G S D W) (hs:∀ b,b<W.heap.size→S b→S' b) (ho:∀ b,S' b→b≠gm) (hd:∀ j,D j→D' j):mM W0 pe gm FA fc fs G S' D' W:=by
 obtain⟨n,f,h1,h2,h3⟩:=h.memo;exact⟨h.mj,h.Aj,⟨n,f,h1,h2,fun k v hv=>by
  obtain⟨j,cs,a,d,b,c⟩:=h3 k v hv;exact⟨j,cs,a,hd j d,b,eY.mono c hs⟩⟩,h.sQ,h.A_,h.ne,h.sq,ho,h.low⟩
theorem mM.far (h:mM W0 pe gm FA fc fs G S D W) {p:Nat} (k:cB (fun b=>b≠p) W W') (hm:W.grownBy W' (some p)) (h1:p≠pe) (h2:p≠gm) (h3:gm<p) (h4:∀ b,S b→b≠p) (hq:Sq gR W (fun b=>b≠gm∧b≠p) FA fs) (hM:∀ n f,jb W gm n f→jb W' gm n f):mM W0 pe gm FA fc fs G S D W':=by
 obtain⟨n,f,m1,m2,m3⟩:=h.memo;exact⟨(World.cell?_of_block (a:=bY pe 0) (k.2 pe h.sQ (by show pe≠p;omega))).trans h.mj,(World.cell?_of_block (a:=bY pe 1) (k.2 pe h.sQ (by show pe≠p;omega))).trans h.Aj,⟨n,f,hM _ _ m1,m2,fun i v hv=>by
  obtain⟨j,cs,a,d,b,c⟩:=m3 i v hv
  exact⟨j,cs,a,d,b,eY.keep c ⟨k.1,fun b hb hs=>k.2 b hb (h4 b hs)⟩⟩⟩,aaD h.sQ k.1,aaD h.A_ k.1,h.ne,(hq.keep ⟨k.1,fun b hb hs=>k.2 b hb hs.2⟩).mono fun b _ hs=>hs.1,h.o,
  h.low.trans ⟨hm.os,hm.tape,hm.output,k.1,fun b hb=>k.2 b (Nat.lt_trans hb h.A_) af⟩⟩
end
theorem jb.keep {w w':World} {g n:Nat} {f:Int→Option Value} (h:jb w g n f) (hb:w'.heap[g]? =w.heap[g]?):jb w' g n f:=by
 obtain⟨D,⟨es,clock,hbk,F,hs,hD⟩,h2,h3⟩:=h;exact⟨D,⟨es,clock,hb.trans hbk,F,hs,hD⟩,h2,h3⟩
section
variable {W0:World} {pe gm:Nat} {FA:Option Addr} {fc:Nat} {fs:List cL} {G:Nat→dh} {S S' D D':Nat→Prop} {W W':World}
theorem mM.put {n:Nat} {f:Int→Option Value} {i:Nat} {cs:List Value} (h:mM W0 pe gm FA fc fs G S D W) (hi:i<fs.length) (h2:n+E8 fs.length f≤fs.length) (h3:∀ (k:Int) (v:Value),f k=some v→∃ (j:Nat) (cs:List Value),k=(j:Int)∧D j∧v= .agg cs.toArray∧eY.is W S cs (G j)) (h0:f i=none) (hD:D i) (hw:eY.is W S cs (G i)) (hm:jb W' gm (n+1) (fun k=>if k=(i:Int)then some (.agg cs.toArray)else f k)) (hg:W.grownBy W' (some gm)):mM W0 pe gm FA fc fs G S D W':=by
 have k:cB (fun b=>b≠gm) W W':=cB.fE hg fun b hb e=>hb bz;have kS:cB S W W':=cB.fE hg fun b hb e=>h.o b hb bz;refine⟨(World.cell?_of_block (a:=bY pe 0) (k.2 pe h.sQ h.ne)).trans h.mj,(World.cell?_of_block (a:=bY pe 1) (k.2 pe h.sQ h.ne)).trans h.Aj,⟨n+1,_,hm,?_,fun a v ha=>?_⟩,aaD h.sQ k.1,aaD h.A_ k.1,h.ne,h.sq.keep k,h.o,
  h.low.trans ⟨hg.os,hg.tape,hg.output,k.1,fun b hb=>k.2 b (Nat.lt_trans hb h.A_) af⟩⟩
 (·have:=PR (u:= .agg cs.toArray) hi h0;omega);by_cases ha1:a=(i:Int)
 (·simp only[if_pos ha1]at ha;injection ha with ha;exact⟨i,cs,ha1,hD,ha.symm,eY.keep hw kS⟩);simp only[if_neg ha1]at ha;obtain⟨j,c,e1,d,e2,e3⟩:=h3 a v ha;exact⟨j,c,e1,d,e2,eY.keep e3 kS⟩
end
section
variable {W0:World} {pe gm:Nat} {FA:Option Addr} {fc:Nat} {fs:List cL} {G:Nat→dh} {S D:Nat→Prop} {W W':World}
theorem mM.res (h:mM W0 pe gm FA fc fs G S D W) {p:Nat} (k:cB (fun b=>b≠p) W W') (hb:Below p W W') (h1:p≠pe) (h3:gm<p) (h4:∀ b,S b→b≠p) (hq:Sq gR W (fun b=>b≠gm∧b≠p) FA fs):mM W0 pe gm FA fc fs G S D W':=
 h.far k ⟨hb.os,hb.tape,hb.output,k.1,fun b hb hr=>k.2 b hb fun e=>hr (by rw[e])⟩ h1 af h3 h4 hq fun n f hm=>hm.keep (k.2 gm h.A_ af)
end
def nL (W0:World) (pe gm:Nat) (FA:Option Addr) (fc:Nat) (fs:List cL) (G:Nat→dh) (r:Nat→Nat) (R:Nat) (S D:Nat→Prop) (z:dh) (w:World) (e:Ending) (w':World):Prop:=
 ∃ cs,e= .returned (.agg cs.toArray)∧eY.is w' (fun b=>S b∨w.heap.size≤b) cs z∧mM W0 pe gm FA fc fs G (fun b=>S b∨w.heap.size≤b) (fun j=>D j∨r j<R) w'∧cB (fun b=>b≠gm) w w'
theorem C3 (w:World):(zeroValue 176).run prog w= .ok (.agg #[bU 0,bU 0,bV ⟨#[]⟩,bV ⟨#[]⟩,cD,bU 0,bU 0,.bool false]) w:=by kernel_rfl
end
theorem PS (W0:World) (pe gm:Nat) (FA:Option Addr) (fc:Nat) (fs:List cL) (G:Nat→dh) (r:Nat→Nat) (hl:fs.length≤1000000) (i:Nat) (hi:i<fs.length) (hex:∀ (S D:Nat→Prop) (w:World) (cs:List Value),mM W0 pe gm FA fc fs G S D w→cH w (fun b=>b≠gm) cs fs[i].body→Calls prog 90 #[.pointer (bY pe 0),.agg cs.toArray] w (nL W0 pe gm FA fc fs G r (r i) S D (G i) w)) (S D:Nat→Prop) (w:World) (hE:mM W0 pe gm FA fc fs G S D w):Calls prog 150 #[.pointer (bY pe 0),bU i] w (nL W0 pe gm FA fc fs G r (r i+1) S D (G i) w):=by
 generalize hP:nL W0 pe gm FA fc fs G r (r i+1) S D (G i) w=P;have HP:=aa (show ∀ e w',nL W0 pe gm FA fc fs G r (r i+1) S D (G i) w e w'→P e w' from fun e w' h=>hP▸h);clear hP;have hE0:=hE.mono (S':=fun b=>S b∧b<w.heap.size) (D':=D) (fun b hb h=>⟨h,hb⟩) (fun b h=>hE.o b h.1) (fun _ h=>h);have hpe:=hE.sQ;have I8:=hE.A_;have c1:=hE.Aj;have lI:=aa (hE.sq.mono (S':=fun b=>b≠gm∧b<w.heap.size) fun b hb h=>⟨h,hb⟩);have hwf:(Lit.int .i64 (i:Int)).wf=true:=by
  have h1:IntKind.min .i64=-9223372036854775808:=ak;have h2:IntKind.max .i64=9223372036854775807:=ak;simp[Lit.wf,h1,h2];omega
 have oq:=aa hex;have Ed:=aa hE.o;have hiz:(i:Int)<(fs.length:Int):=af;obtain⟨n,f,hm,hn,hf⟩:=hE0.memo;have HM:=aa hm;have hb1:Below w w (w.alloc (.cells #[bU 0,bU 0,bV ⟨#[]⟩,bV ⟨#[]⟩,cD,bU 0,bU 0,.bool false] 176)):=cS _;have a1:(w.alloc (.cells #[bU 0,bU 0,bV ⟨#[]⟩,bV ⟨#[]⟩,cD,bU 0,bU 0,.bool false] 176)).heap.size=w.heap.size+1:=ai;have HM1:=aa (hm.bZ hb1 I8);have PT:=aa hE0;clear hE hE0 hm hex;cases Tu:f i with
 |some v=>
  obtain⟨j,cs,hj,_,hv,hw⟩:=hf i v Tu;(obtain rfl:i=j:=by omega);obtain⟨es,e,hie⟩:=hw;obtain⟨ku,zn,kA,kB,A4,c4,zr,Ai,hes,_⟩:=hie.parts;have HX:=aa hie;generalize G i=z at HX Ai e HP oq;subst hes e hv;obtain⟨zx,zN,zL,zF⟩:=z;have hb2:=hb1.alloc aU (.cells #[.int .i64 ku,.int .i64 zn,bV kA,bV kB,bW A4 zr c4,.int .i64 zN,.int .i64 zL,.bool zF] 176);have k0:cN ((w.alloc (.cells #[.int .i64 0,.int .i64 0,bV ⟨#[]⟩,bV ⟨#[]⟩,cD,.int .i64 0,.int .i64 0,.bool false] 176)).alloc (.cells #[.int .i64 ku,.int .i64 zn,bV kA,bV kB,bW A4 zr c4,.int .i64 zN,.int .i64 zL,.bool zF] 176)) w 176 [.int .i64 0,.int .i64 0,bV ⟨#[]⟩,bV ⟨#[]⟩,cD,.int .i64 0,.int .i64 0,.bool false]:=(heap_alloc_old _ _ aU).trans (heap_alloc_new w _);have k1:=heap_alloc_new (w.alloc (.cells #[.int .i64 0,.int .i64 0,bV ⟨#[]⟩,bV ⟨#[]⟩,cD,.int .i64 0,.int .i64 0,.bool false] 176)) (.cells #[.int .i64 ku,.int .i64 zn,bV kA,bV kB,bW A4 zr c4,.int .i64 zN,.int .i64 zL,.bool zF] 176);rw[a1]at k1;have K0:=aa k0;have K1:Hid (cN ((w.alloc (.cells #[.int .i64 0,.int .i64 0,bV ⟨#[]⟩,bV ⟨#[]⟩,cD,.int .i64 0,.int .i64 0,.bool false] 176)).alloc (.cells #[.int .i64 ku,.int .i64 zn,bV kA,bV kB,bW A4 zr c4,.int .i64 zN,.int .i64 zL,.bool zF] 176)) (w+1) 176 [.int .i64 ku,.int .i64 zn,bV kA,bV kB,bW A4 zr c4,.int .i64 zN,.int .i64 zL,.bool zF]):=aa k1;have dG:=aa hb2;clear k0 k1 hb1 hb2 a1 hf hj Ai hie;go_enter func150,ntmps150;go_upto_region 2 with(at_lookup;refine wN _ rfl _ _ _ rfl 176 underlying172 (C3 _) gm n f rfl HM1.o (i:Int) rfl hwf _ Tu ?_);generalize ((w.alloc (.cells #[.int .i64 0,.int .i64 0,bV ⟨#[]⟩,bV ⟨#[]⟩,cD,.int .i64 0,.int .i64 0,.bool false] 176)).alloc (.cells #[.int .i64 ku,.int .i64 zn,bV kA,bV kB,bW A4 zr c4,.int .i64 zN,.int .i64 zL,.bool zF] 176))=w2 at K0 K1 dG ⊢;have GD:=aa (PT.o.bZ dG.o);have hz2:=dG.o.size;have hs2:=K1.o.lt;have F3:=aa ((lI.o.mono (S':=fun b=>b≠gm∧b≠w.heap.size) fun b hb h=>⟨h.1,by omega⟩).bZ dG.o);obtain⟨wF,qE,qF,kF,pZ⟩:=CX K0.o rfl (.int .i64 ku) (.int .i64 zn) (bV kA) (bV kB) (bW A4 zr c4) (.int .i64 zN) (.int .i64 zL) (.bool zF);have zz:=qF.cell;have HE:=aa (show nL W0 pe gm FA fc fs G r (r i+1) S D ⟨zx,zN,zL,zF⟩ w (.returned (.agg #[.int .i64 ku,.int .i64 zn,bV kA,bV kB,bW A4 zr c4,.int .i64 zN,.int .i64 zL,.bool zF])) wF by
   have he:=GD.o.res kF (pZ _ _ (aaf _ _) aac) af af (fun b h=>by omega) F3.o;have hk:cB (fun b=>S b∧b<w.heap.size) w wF:=(cB.cA dG.o).trans ⟨kF.1,fun b hb h=>kF.2 b hb af⟩;exact⟨_,rfl,⟨[_,_,_,_,_],rfl,(HX.o.keep hk).mono fun b _ h=> .inl h.1⟩,he.mono (fun b _ h=> .inl h.1) (fun b h e=>by subst e;rcases h with h|h;exact absurd rfl (Ed.o _ h);omega) (fun j h=> .inl h),⟨aaC dG.o.size kF.1,fun b hb h=>(kF.2 b af af).trans (dG.o.block b hb)⟩⟩)
  have z0:=K0.o.cell;have f0:=K0.o.frozen;have z1:=K1.o.cell;have r6:=aa qE;clear qE qF kF pZ HX;go_wp2_with fail;rw[← r6.o];exact bodyPost_ret (by simp[results,results150,go_sem,zz]) rfl (HP.o _ _ HE.o)
 |none=>
  obtain⟨b,o,cs,hA,Yy,hbl,ey,cM⟩:=lI.o.get hi;subst hA;have hb2:=hb1.alloc aU (.cells #[bU 0,bU 0,bV ⟨#[]⟩,bV ⟨#[]⟩,cD,bU 0,bU 0,.bool false] 176);have hE0':mM W0 pe gm (bY b o) fc fs G (fun b=>S b∧b<w.heap.size) (fun j=>¬f (j:Int)=none) w:=
   ⟨PT.o.mj,PT.o.Aj,⟨n,f,HM.o,hn,fun k v hv=>by
    obtain⟨j,cs,e1,_,e2,e3⟩:=hf k v hv;exact⟨j,cs,e1,by rw[← e1,hv];simp,e2,e3⟩⟩,PT.o.sQ,PT.o.A_,PT.o.ne,PT.o.sq,PT.o.o,PT.o.low⟩
  have HDom:=aa (show ∀ j:Nat,¬f (j:Int)=none→D j from fun j hj=>by
   cases hv:f (j:Int)with
   |none=>exact absurd hv hj
   |some v=>
    obtain⟨j',_,e1,d,_⟩:=hf j v hv;(obtain rfl:j=j':=by omega);exact d)
  obtain⟨FAp,d,es,e,_,hie⟩:=ey;have GD:=aa (hE0'.bZ hb2);have uD:=aa (oq.o _ _ _ _ GD.o ((hie.mono fun b _ h=>h.1).keep (cB.cA hb2)));obtain⟨bop,bn,bun,bnm,B5,c5,br,_,hes,_⟩:=hie.parts;subst hes e;have cM:∀ j v,[bV fs[i].name,bW FAp fs[i].params.length d,.int .i64 bop,.int .i64 bn,bV bun,bV bnm,bW B5 br c5][j]? =some v→((w.alloc (.cells #[.int .i64 0,.int .i64 0,bV ⟨#[]⟩,bV ⟨#[]⟩,cD,.int .i64 0,.int .i64 0,.bool false] 176)).alloc (.cells #[.int .i64 0,.int .i64 0,bV ⟨#[]⟩,bV ⟨#[]⟩,cD,.int .i64 0,.int .i64 0,.bool false] 176)).cell? (bY b (o+i*7+j))=some v:=fun j v h=>(hb2.cell (p:=bY b (o+i*7+j)) hbl).trans (cM j v h);have g2:=cM 2 _ rfl;have g3:=cM 3 _ rfl;have g4:=cM 4 _ rfl;have g5:=cM 5 _ rfl;have g6:=cM 6 _ rfl;have k1:=heap_alloc_new (w.alloc (.cells #[.int .i64 0,.int .i64 0,bV ⟨#[]⟩,bV ⟨#[]⟩,cD,.int .i64 0,.int .i64 0,.bool false] 176)) (.cells #[.int .i64 0,.int .i64 0,bV ⟨#[]⟩,bV ⟨#[]⟩,cD,.int .i64 0,.int .i64 0,.bool false] 176);rw[a1]at k1;have K0:Hid (cN ((w.alloc (.cells #[.int .i64 0,.int .i64 0,bV ⟨#[]⟩,bV ⟨#[]⟩,cD,.int .i64 0,.int .i64 0,.bool false] 176)).alloc (.cells #[.int .i64 0,.int .i64 0,bV ⟨#[]⟩,bV ⟨#[]⟩,cD,.int .i64 0,.int .i64 0,.bool false] 176)) w 176 [.int .i64 0,.int .i64 0,bV ⟨#[]⟩,bV ⟨#[]⟩,cD,.int .i64 0,.int .i64 0,.bool false]):=aa ((heap_alloc_old _ _ aU).trans (heap_alloc_new w _));have K1:Hid (cN ((w.alloc (.cells #[.int .i64 0,.int .i64 0,bV ⟨#[]⟩,bV ⟨#[]⟩,cD,.int .i64 0,.int .i64 0,.bool false] 176)).alloc (.cells #[.int .i64 0,.int .i64 0,bV ⟨#[]⟩,bV ⟨#[]⟩,cD,.int .i64 0,.int .i64 0,.bool false] 176)) (w+1) 176 [.int .i64 0,.int .i64 0,bV ⟨#[]⟩,bV ⟨#[]⟩,cD,.int .i64 0,.int .i64 0,.bool false]):=aa k1;have dG:=aa hb2;have D6:=aa (And.intro g2 (And.intro g3 (And.intro g4 (And.intro g5 g6))));clear k1 hb1 hb2 a1 hf cM hie oq hE0' g2 g3 g4 g5 g6;go_enter func150,ntmps150;go_upto_region 2 with(at_lookup;refine wO _ rfl _ _ _ rfl 176 underlying172 (C3 _) gm n f rfl HM1.o (i:Int) rfl hwf Tu ?_);generalize ((w.alloc (.cells #[.int .i64 0,.int .i64 0,bV ⟨#[]⟩,bV ⟨#[]⟩,cD,.int .i64 0,.int .i64 0,.bool false] 176)).alloc (.cells #[.int .i64 0,.int .i64 0,bV ⟨#[]⟩,bV ⟨#[]⟩,cD,.int .i64 0,.int .i64 0,.bool false] 176))=w2 at K0 K1 dG GD uD D6 ⊢;obtain⟨g2,g3,g4,g5,g6⟩:=D6.o;have c2:=GD.o.mj;have hz2:=dG.o.size;have hs2:=K1.o.lt;clear c1;go_wp2_with fail;refine uD.o.mono ?_;rintro e w3 ⟨cz,rfl,hz,hE3,hK3⟩;have Z8:=aa hz;obtain⟨es,e,hie⟩:=hz;obtain⟨ku,zn,kA,kB,A4,c4,zr,Ai,hes,_⟩:=hie.parts;subst hes;subst e;have Z8:Hid (eY.is w3 (fun b=>(S b∧b<w.heap.size)∨w2.heap.size≤b) [.int .i64 ku,.int .i64 zn,bV kA,bV kB,bW A4 zr c4,.int .i64 (G i).nodes,.int .i64 (G i).levels,.bool (G i).full] (G i)):=Z8;generalize (G i).nodes=zN at Z8 ⊢;generalize (G i).levels=zL at Z8 ⊢;generalize (G i).full=zF at Z8 ⊢;have hk3:=hK3.1;have k1:cN w3 (w+1) 176 [.int .i64 0,.int .i64 0,bV ⟨#[]⟩,bV ⟨#[]⟩,cD,.int .i64 0,.int .i64 0,.bool false]:=(hK3.2 _ hs2 af).trans K1.o;have k0:cN w3 w 176 [.int .i64 0,.int .i64 0,bV ⟨#[]⟩,bV ⟨#[]⟩,cD,.int .i64 0,.int .i64 0,.bool false]:=(hK3.2 _ af af).trans K0.o;obtain⟨w4,hw4,hk4,k4,hb4⟩:=CX k1 rfl (.int .i64 ku) (.int .i64 zn) (bV kA) (bV kB) (bW A4 zr c4) (.int .i64 zN) (.int .i64 zL) (.bool zF);have WO:Sq gR w3 (fun b=>b≠gm∧b<w.heap.size) (bY b o) fs:=(lI.o.bZ dG.o).keep ⟨hK3.1,fun b hb h=>hK3.2 b hb h.1⟩;have hE4:=(hE3.mono (S':=fun b=>(S b∧b<w.heap.size)∨w2.heap.size≤b) (D':=fun j=>¬f (j:Int)=none∨r j<r i) (fun b _ h=>h) (fun b h=>by rcases h with h|h;exact Ed.o b h.1;omega) (fun j h=>h)).res k4 (hb4 _ _ (aaf _ _) aac) af af (fun b h=>by rcases h with h|h<;>omega) (WO.mono fun b _ h=>⟨h.1,by omega⟩);have HE4:=aa hE4;have K4:=aa hk4;have HW4:=aa (eY.keep Z8.o (⟨k4.1,fun b hb h=>k4.2 b hb (by rcases h with h|h<;>omega)⟩:cB _ w3 w4));have K0':Hid (cN w4 w 176 [.int .i64 0,.int .i64 0,bV ⟨#[]⟩,bV ⟨#[]⟩,cD,.int .i64 0,.int .i64 0,.bool false]):=aa ((k4.2 _ af af).trans k0);have Mu:=aa (show cB (fun b=>b≠gm) w w4 from⟨by have:=dG.o.size;have:=k4.1;omega,fun b hb h=>(k4.2 b af af).trans ((hK3.2 b af h).trans (dG.o.block b hb))⟩);have z1:=k1.cell;have f1:=k1.frozen;have HWe:=aa hw4;have hs3:=k1.lt;clear k0 k1 hw4 hk4 k4 hb4 WO hE4 hE3 hK3 hie Ai Z8 uD g2 g3 g4 g5 g6 c2;go_upto_region 4 with fail;rw[← HWe.o];clear z1 f1;obtain⟨n4,f4,hm4,hn4,ER⟩:=HE4.o.memo;have h0:f4 (i:Int)=none:=by
   cases hv:f4 (i:Int)with
   |none=>rfl
   |some v=>
    obtain⟨j,_,e1,d,_⟩:=ER _ _ hv;(obtain rfl:i=j:=by omega);rcases d with d|d
    (·exact absurd Tu d);omega
  have HM4:=aa hm4;have c4':=HE4.o.Aj;have z4:=K4.o.cell;go_still_tail 6,ah;change wpList _ _ _ _ _ w4.drew;refine qG _ rfl (.tmp 31) (.tmp 32) (.tmp 33) _ rfl 176 underlying172 gm n4 f4 rfl HM4.o.drew aH (i:Int) (.agg #[bU ku,bU zn,bV kA,bV kB,bW A4 zr c4,bU zN,bU zL,.bool zF]) rfl rfl hwf ?_;intro w9 hm9 ya;have hE9:=(HE4.o.mono (S':=fun b=>(S b∧b<w.heap.size)∨w2.heap.size≤b) (D':=fun j=>D j∨r j<r i+1) (fun b _ h=>h) (fun b h=>HE4.o.o b h) (fun j h=>h.elim (fun h=> .inl (HDom.o j h)) fun h=> .inr af)).bZ dX.jo;have hd4:Below w4 w4 w4.drew:=dX.jo;have hw4:=eY.keep HW4.o (cB.cA hd4);have hE:=hE9.put (cs:=[bU ku,bU zn,bV kA,bV kB,bW A4 zr c4,bU zN,bU zL,.bool zF]) hi hn4 (fun k v hv=>by
   obtain⟨j,cs,e1,d,e2,e3⟩:=ER k v hv;exact⟨j,cs,e1,d.elim (fun h=> .inl (HDom.o j h)) (fun h=> .inr af),e2,eY.keep e3 (cB.cA hd4)⟩) h0 (.inr af) hw4 hm9 ya
  have k9:cB (fun b=>b≠gm) w4 w9:=(cB.cA hd4).trans (cB.fE ya fun b hb e=>hb bz);have hz4:=K4.o.lt;have k1:=(k9.2 _ hz4 af).trans K4.o;have k0:=(k9.2 w.heap.size af af).trans K0'.o;have hq9:Sq gR w9 (fun b=>b≠gm∧b<w.heap.size) (bY b o) fs:=lI.o.keep ⟨aaC Mu.o.1 k9.1,fun b hb h=>(k9.2 b (aaD hb Mu.o.1) h.1).trans (Mu.o.2 b hb h.1)⟩;obtain⟨wF,qE,qF,kF,pZ⟩:=CX (t:=176) k0 rfl (.int .i64 ku) (.int .i64 zn) (bV kA) (bV kB) (bW A4 zr c4) (.int .i64 zN) (.int .i64 zL) (.bool zF);have zz:=qF.cell;have HE:=aa (show nL W0 pe gm (bY b o) fc fs G r (r i+1) S D (G i) w (.returned (.agg #[.int .i64 ku,.int .i64 zn,bV kA,bV kB,bW A4 zr c4,.int .i64 zN,.int .i64 zL,.bool zF])) wF by
   have he:=hE.res kF (pZ _ _ (aaf _ _) aac) af af (fun b h=>by rcases h with h|h<;>omega) (hq9.mono fun b _ h=>⟨h.1,by omega⟩);have Jg:=eY.keep (eY.keep hw4 (cB.fE ya fun b hb e=>HE4.o.o b hb bz)) (⟨kF.1,fun b hb h=>kF.2 b hb (by rcases h with h|h<;>omega)⟩:cB _ w9 wF);exact⟨_,rfl,eY.mono Jg fun b _ h=>h.elim (fun h=> .inl h.1) fun h=> .inr af,he.mono (fun b _ h=>h.elim (fun h=> .inl h.1) fun h=> .inr af) (fun b h e=>by subst e;rcases h with h|h;exact absurd rfl (Ed.o _ h);omega) (fun j h=>h),
    ⟨by have:=Mu.o.1;have:=k9.1;have:=kF.1;omega,fun b hb h=>(kF.2 b (by have:=Mu.o.1;have:=k9.1;omega) af).trans ((k9.2 b (by have:=Mu.o.1;omega) h).trans (Mu.o.2 b hb h))⟩⟩)
  have z0:=cN.cell (t:=176) k0;have f0:=cN.frozen (t:=176) k0;have z1:=cN.cell (t:=176) k1;have r6:=aa qE;clear qE qF kF pZ hE hE9 hq9 k9 k0 k1 hw4 hd4 hm9 ya z4 c4' ER hm4 h0;go_wp2_with fail;rw[← r6.o];exact bodyPost_ret (by simp[results,results150,go_sem,zz]) rfl (HP.o _ _ HE.o)
section
theorem dO.Tv {α:Type} {R:Rel α} {T B:Nat} {w w':World} {S:Nat→Prop} {v:Value} {xs:List α} (h:dO R T B w S v xs) (hs:w.heap.size≤w') (hg:∀ g,v.ownBlock=some g→w'.heap[g]? =w.heap[g]?) (hS:∀ b,b<w.heap.size→S b→some b≠v.ownBlock→w'.heap[b]? =w.heap[b]?):dO R T B w' S v xs:=by
 obtain⟨css,h1,h2,h3,h4⟩:=h;refine⟨css,h1,⟨h2.1,?_⟩,h3,fun j cs x hc hx=>R.keep (h4 j cs x hc hx) ⟨hs,fun b hb q=>hS b hb q.1 q.2⟩⟩;rcases h2.2 with q|⟨g,cap,cur,rfl,hB,hb,rest⟩
 (·exact .inl q);exact .inr ⟨g,cap,cur,rfl,hB,by rw[hg g rfl];exact hb,rest⟩
theorem mM.WY {W0:World} {pe gm:Nat} {FA:Option Addr} {fc:Nat} {fs:List cL} {G:Nat→dh} {S D:Nat→Prop} {W W':World} {row:Option Nat} {B:Nat} (h:mM W0 pe gm FA fc fs G S D W) (hg:W.grownBy W' row) (hB:∀ g,row=some g→B≤g) (h1:pe<B) (h2:gm<B) (h3:∀ b,S b→some b≠row) (hq:Sq gR W (fun b=>b≠gm∧b<B) FA fs):mM W0 pe gm FA fc fs G S D W':=by
 obtain⟨n,f,m1,m2,m3⟩:=h.memo;(have far:∀ {b:Nat},b<B→some b≠row:=fun hb e=>by have:=hB _ e.symm;omega);exact⟨(World.cell?_of_block (a:=bY pe 0) (hg.block pe h.sQ (far h1))).trans h.mj,(World.cell?_of_block (a:=bY pe 1) (hg.block pe h.sQ (far h1))).trans h.Aj,⟨n,f,m1.keep (hg.block gm h.A_ (far h2)),m2,fun i v hv=>by
  obtain⟨j,cs,a,d,b,c⟩:=m3 i v hv
  exact⟨j,cs,a,d,b,eY.keep c (cB.fE hg h3)⟩⟩,aaD h.sQ hg.size,aaD h.A_ hg.size,h.ne,(hq.keep (cB.fE hg fun b hb=>far hb.2)).mono fun b _ hs=>hs.1,h.o,
  h.low.trans ⟨hg.os,hg.tape,hg.output,hg.size,fun b hb=>hg.block b (Nat.lt_trans hb h.A_) (far (Nat.lt_trans hb h2))⟩⟩
structure yD (W0:World) (pe gm:Nat) (FA:Option Addr) (fc:Nat) (fs:List cL) (G:Nat→dh) (S D:Nat→Prop) (w:World) (Jv:List Value) (v:Value) (acc:List dh) (wr:World):Prop where
 b0:cN wr w 47 Jv
 b1:cN wr (w+1) 176 [bU 0,bU 0,bV ⟨#[]⟩,bV ⟨#[]⟩,cD,bU 0,bU 0,.bool false]
 own:dO eY 176 (w+1+1) wr (fun b=>S b∧b<w.heap.size∨w.heap.size+1+1≤b) v acc
 ea:mM W0 pe gm FA fc fs G (fun b=>(S b∧b<w.heap.size∨w.heap.size+1+1≤b)∧some b≠v.ownBlock) D wr
 old:cB (fun b=>b≠gm) w wr
 size:w.heap.size+1+1≤wr
section
variable {W0:World} {pe gm:Nat} {FA:Option Addr} {fc:Nat} {fs:List cL} {G:Nat→dh} {S D:Nat→Prop} {w wr w':World} {Jv:List Value} {v:Value} {acc:List dh}
theorem yD.bZ (h:yD W0 pe gm FA fc fs G S D w Jv v acc wr) (hb:Below wr wr w'):yD W0 pe gm FA fc fs G S D w Jv v acc w':=by
 have hs:=h.size;exact⟨h.b0.bZ hb af,h.b1.bZ hb af,h.own.bZ hb,h.ea.bZ hb,h.old.trans (cB.cA hb),aaC hs hb.size⟩
theorem yD.after {wc:World} (h:yD W0 pe gm FA fc fs G S D w Jv v acc wc) (I8:gm<w.heap.size) (hz:wr.heap.size≤wc) (hv:∀ g,v.ownBlock=some g→g<wr.heap.size) (hE:mM W0 pe gm FA fc fs G (fun b=>((S b∧b<w.heap.size∨w.heap.size+1+1≤b)∧some b≠v.ownBlock)∨wc.heap.size≤b) D w') (hk:cB (fun b=>b≠gm) wc w'):yD W0 pe gm FA fc fs G S D w Jv v acc w':=by
 have hs:=h.size;have hown:=h.own.lt;refine⟨(hk.2 _ af af).trans h.b0,(hk.2 _ af af).trans h.b1,h.own.Tv hk.1 (fun g e=>hk.2 g (h.own.lt g e).2 (by have:=(h.own.lt g e).1;omega)) (fun b hb q ne=>hk.2 b hb (h.ea.o b ⟨q,ne⟩)),?_,h.old.trans hk,aaC hs hk.1⟩;exact hE.mono (fun b _ q=>q.elim id fun q=>⟨.inr af,fun e=>by have:=hv b e.symm;omega⟩) (fun b q=>h.ea.o b q) (fun _ h=>h)
theorem yD.more {o:Obj} {w9:World} {v':Value} {ys:List dh} (h:yD W0 pe gm FA fc fs G S D w Jv v acc wr) (hpe:pe<w.heap.size) (I8:gm<w.heap.size) (hq:Sq gR w (fun b=>b≠gm∧b<w.heap.size) FA fs) (G9:Grown eY 176 (w+1+1) (wr.alloc o) (fun b=>S b∧b<w.heap.size∨w.heap.size+1+1≤b) v ys w9 v'):yD W0 pe gm FA fc fs G S D w Jv v' ys w9:=by
 have hs:=h.size;have ha:(wr.alloc o).heap.size=wr.heap.size+1:=ai;have Z4:Below wr wr (wr.alloc o):=cS o;have hb:=G9.bZ (h.own.bZ Z4) af;have hb2:=hb.size;have hown:=h.own.lt;have blk:∀ {g t:Nat} {cs:List Value},g<w.heap.size+1+1→cN wr g t cs→cN w9 g t cs:=fun h1 h2=>(hb.block _ h1).trans ((heap_alloc_old _ _ af).trans h2);have kw:cB (fun b=>b≠gm∧b<w.heap.size) w (wr.alloc o):=⟨by have:=h.old.1;omega,fun b hb h9=>(heap_alloc_old _ _ af).trans (h.old.2 b hb h9.1)⟩;refine⟨blk af h.b0,blk af h.b1,G9.own,?_,⟨by have:=h.old.1;omega,fun b hb3 h9=>(hb.block b af).trans ((heap_alloc_old _ _ af).trans (h.old.2 b hb3 h9))⟩,by omega⟩;have hout:∀ b,(S b∧b<w.heap.size∨w.heap.size+1+1≤b)→b≠gm:=fun b q=>by
  rcases q with q|q
  (·exact h.ea.o b ⟨.inl q,fun e=>by have:=(h.own.lt b e.symm).1;omega⟩);omega
 have he:=((h.ea.bZ Z4).mono (S':=fun b=>((S b∧b<w.heap.size∨w.heap.size+1+1≤b)∧some b≠v.ownBlock)∧b<(wr.alloc o).heap.size) (D':=D) (fun b hb q=>⟨q,hb⟩) (fun b q=>hout b q.1.1) (fun _ h=>h)).WY (B:=w.heap.size+1+1) G9.turn (fun g e=>(h.own.lt g e).1) af af (fun b q=>q.1.2) ((hq.keep kw).mono fun b _ h=>⟨h.1,by omega⟩);refine he.mono (fun b _ q=>⟨q.1.1,fun e=>?_⟩) (fun b q=>hout b q.1) (fun _ h=>h);rcases G9.row with h9|h9
 (·rw[h9]at e;exact q.1.2 e);rw[h9]at e;injection e with e;have:=q.2;omega
end
theorem yD.fin {W0:World} {pe gm:Nat} {FA:Option Addr} {fc:Nat} {fs:List cL} {G:Nat→dh} {r:Nat→Nat} {R:Nat} {S D:Nat→Prop} {w w5 wF:World} {Jv cs:List Value} {v:Value} {acc:List dh} {z:dh} (h:yD W0 pe gm FA fc fs G S (fun j=>D j∨r j<R) w Jv v acc w5) (hpe:pe<w.heap.size) (I8:gm<w.heap.size) (hq:Sq gR w (fun b=>b≠gm∧b<w.heap.size) FA fs) (hS:∀ b,S b→b≠gm) (hz:eY.is w5 (fun b=>S b∧b<w.heap.size∨w.heap.size+1+1≤b) cs z) (kF:cB (fun b=>b≠w.heap.size+1) w5 wF) (pZ:Below (w+1) w5 wF):nL W0 pe gm FA fc fs G r R S D z w (.returned (.agg cs.toArray)) wF:=by
 have hs:=h.size;have h0:=h.old.1;have h1:=kF.1;have hq5:Sq gR w5 (fun b=>b≠gm∧b≠w.heap.size+1) FA fs:=(hq.keep ⟨h0,fun b hb q=>h.old.2 b hb q.1⟩).mono fun b _ q=>⟨q.1,by omega⟩;have he:=h.ea.res kF pZ af af (fun b q=>by omega) hq5;refine⟨cs,rfl,eY.mono (eY.keep hz ⟨h1,fun b hb q=>kF.2 b hb af⟩) fun b _ q=>q.elim (fun q=> .inl q.1) fun q=> .inr af,he.mono (fun b _ q=>q.1.elim (fun q=> .inl q.1) fun q=> .inr af) (fun b q e=>by subst e;rcases q with q|q;exact absurd rfl (hS _ q);omega) (fun j q=>q),⟨by omega,fun b hb q=>(kF.2 b af af).trans (h.old.2 b hb q)⟩⟩
theorem PU {G:Nat→dh} {fs:List cL} {op n:Int} {un nm:ByteArray} {l:List cw} (h:¬op=3):eZ G fs (.mk op n un nm l)=xO op n un nm 1 1 [] (j9 G fs l):=by
 (conv=>lhs;unfold eZ);rw[if_neg h]
theorem PV {G:Nat→dh} {fs:List cL} {n:Int} {un nm:ByteArray} {l:List cw}:eZ G fs (.mk 3 n un nm l)=if(G (findF fs nm).toNat).full then lu else match fs[(findF fs nm).toNat]? with|some f=>lF f.params (j9 G fs l) (G (findF fs nm).toNat).x|none=>lu:=by
 (conv=>lhs;unfold eZ);rw[if_pos rfl];(all_goals rfl)
structure wP (fs:List cL) (G:Nat→dh) (r:Nat→Nat):Prop where
 fix:Tq fs G
 PI:yz fs r
 one:∀ f∈fs,dK (j7 fs) f.body=false∧dK (j8 fs) f.body=false∧dK (iU f.params) f.body=false∧cE f.body≤1000000∧f.params.length≤6
 len:fs.length≤1000000
theorem Jz (W0:World) (pe gm:Nat) (FA:Option Addr) (fc:Nat) (fs:List cL) (G:Nat→dh) (r:Nat→Nat) (hX:wP fs G r) (R:Nat):∀ (N:Nat),N≤1000000→∀ (x:cw),cE x≤N→(∀ j∈fT fs x,r j<R)→dK (j7 fs) x=false→dK (j8 fs) x=false→∀ (S D:Nat→Prop) (w:World) (cs:List Value),mM W0 pe gm FA fc fs G S D w→cH w (fun b=>b≠gm) cs x→Calls prog 90 #[.pointer (bY pe 0),.agg cs.toArray] w (nL W0 pe gm FA fc fs G r R S D (eZ G fs x) w):=by
 induction R using Nat.strongRecOn with
 |ind R ihR=>
  have hbody:∀ (i:Nat) (hi:i<fs.length),r i<R→∀ (S D:Nat→Prop) (w:World),mM W0 pe gm FA fc fs G S D w→Calls prog 150 #[.pointer (bY pe 0),bU i] w (nL W0 pe gm FA fc fs G r (r i+1) S D (G i) w):=fun i hi hr S D w hE=>
   PS W0 pe gm FA fc fs G r hX.len i hi (fun S D w cs hE hI=>by
    obtain⟨b1,b2,b3,b4,b5⟩:=hX.one _ (aan hi);rw[hX.fix i fs[i] (List.getElem?_eq_getElem hi)];exact ihR (r i) hr 1000000 aac fs[i].body b4 (hX.PI i fs[i] (List.getElem?_eq_getElem hi)) b1 b2 S D w cs hE hI) S D w hE
  intro N;induction N with
  |zero=>intro _ x hx;have:=dB x;omega
  |succ N ih=>
   intro hN x hx cM Tw Z9 S D w cs hE hI
   replace ih:=ih af
   generalize hP:nL W0 pe gm FA fc fs G r R S D (eZ G fs x) w=P
   have HP:=aa (show ∀ e w',nL W0 pe gm FA fc fs G r R S D (eZ G fs x) w e w'→P e w' from fun e w' h=>hP▸h)
   clear hP
   obtain⟨op,n,un,nm,A2,c2,ar,e1,e2,hS⟩:=cH.parts hI
   subst e1 e2
   have vE:cE (.mk op n un nm ar)=1+cT ar:=by unfold cE;rfl
   have hnl:=fN ar
   have har:ar.length≤1000000:=by omega
   have HSub:=aa (fun y (hy:y∈ar)=>And.intro (show cE y≤N by have:=dP ar y hy;omega) (And.intro (show ∀ j∈fT fs y,r j<R from fun j hj=>cM j (by unfold fT;exact List.mem_append_right _ (yw hy hj))) (And.intro (kr (y:=y) Tw hy) (kr (y:=y) Z9 hy))))
   have HUnk:=aa (jD Tw)
   have HUne:=aa (jD Z9)
   have HI:=aa (hS.mono (S':=fun b=>b≠gm∧b<w.heap.size) fun b hb h=>⟨h,hb⟩)
   have hpe:=hE.sQ
   have I8:=hE.A_
   have hpg:=hE.ne
   have Ed:=aa hE.o
   have lI:=aa (hE.sq.mono (S':=fun b=>b≠gm∧b<w.heap.size) fun b hb h=>⟨h,hb⟩)
   have C4:Hid (yD W0 pe gm FA fc fs G S (fun j=>D j∨r j<R) w [bU op,bU n,bV un,bV nm,bW A2 ar c2] cD [] ((w.alloc (.cells #[bU op,bU n,bV un,bV nm,bW A2 ar c2] 47)).alloc (.cells #[bU 0,bU 0,bV ⟨#[]⟩,bV ⟨#[]⟩,cD,bU 0,bU 0,.bool false] 176))):=by
    have a1:(w.alloc (.cells #[bU op,bU n,bV un,bV nm,bW A2 ar c2] 47)).heap.size=w.heap.size+1:=ai;have k1:=heap_alloc_new (w.alloc (.cells #[bU op,bU n,bV un,bV nm,bW A2 ar c2] 47)) (.cells #[bU 0,bU 0,bV ⟨#[]⟩,bV ⟨#[]⟩,cD,bU 0,bU 0,.bool false] 176);rw[a1]at k1;have hb2:Below w w ((w.alloc (.cells #[bU op,bU n,bV un,bV nm,bW A2 ar c2] 47)).alloc (.cells #[bU 0,bU 0,bV ⟨#[]⟩,bV ⟨#[]⟩,cD,bU 0,bU 0,.bool false] 176)):=(cS _).alloc aU _;exact aa ⟨(heap_alloc_old _ _ aU).trans (heap_alloc_new w _),k1,dO.ql,(hE.mono (S':=fun b=>(S b∧b<w.heap.size∨w.heap.size+1+1≤b)∧some b≠(bW none 0 0).ownBlock) (D':=fun j=>D j∨r j<R) (fun b hb h=>⟨.inl ⟨h,hb⟩,by simp[Value.ownBlock]⟩) (fun b h=>by rcases h.1 with q|q;exact hE.o b q.1;omega) (fun j h=> .inl h)).bZ hb2,cB.cA hb2,by rw[aaI,a1];omega⟩
   have ua:=aa cM
   have HBody:=aa hbody
   have um:=aa ih
   clear hS hE hI vE hnl hx Tw Z9 hbody ih ihR cM
   go_enter func90,ntmps90
   go_upto_region 1 with fail
   generalize ((w.alloc (.cells #[bU op,bU n,bV un,bV nm,bW A2 ar c2] 47)).alloc (.cells #[bU 0,bU 0,bV ⟨#[]⟩,bV ⟨#[]⟩,cD,bU 0,bU 0,.bool false] 176))=w3 at C4 ⊢
   have z0:=C4.o.b0.cell
   go_wp2_with fail
   clear z0
   go_loopw [5,13] (fun v5 ZN wr=>∃ (k:Nat) (v:Value),k≤ar.length∧ZN=bU (k:Int)∧v=v5∧Hid (yD W0 pe gm FA fc fs G S (fun j=>D j∨r j<R) w [bU op,bU n,bV un,bV nm,bW A2 ar c2] v ((ar.take k).map (eZ G fs)) wr)) (fun _ ZN _=>ar.length - (intOf ZN).toNat)
   case atStart=>exact⟨0,_,aaG _,rfl,rfl,C4⟩
   case round=>
    clear C4;obtain⟨k,v,hk,rfl,rfl,C4⟩:=hrel;by_cases hlt:k<ar.length
    ·obtain⟨bl,o,cs,hA,Yy,hbl,ey,CY⟩:=HI.o.get hlt;subst hA;have cM:∀ i v,cs[i]? =some v→b_ wr bl (o+k*5+i) v:=fun i v h=>(World.cell?_of_block (a:=bY bl (o+k*5+i)) (C4.o.old.2 bl hbl Yy.1)).trans (CY i v h);clear CY;obtain⟨s1,s2,s3,s4⟩:=HSub.o _ (aan hlt);have nZ:=aa (show(ar.take (k+1)).map (eZ G fs)=(ar.take k).map (eZ G fs)++[eZ G fs ar[k]] by rw[aaz hlt,List.map_append];rfl);obtain⟨eR,yn,eT,eU,A3,c3,yr,oh,hes,_⟩:=cH.parts ey;subst hes;have g0:b_ wr bl (o+k*5) (bU eR):=cM 0 _ rfl;have g1:b_ wr bl (o+k*5+1) (bU yn):=cM 1 _ rfl;have g2:b_ wr bl (o+k*5+2) (bV eT):=cM 2 _ rfl;have g3:b_ wr bl (o+k*5+3) (bV eU):=cM 3 _ rfl;have g4:b_ wr bl (o+k*5+4) (bW A3 yr c3):=cM 4 _ rfl;have fO:Below wr wr (wr.alloc (.cells #[bU eR,bU yn,bV eT,bV eU,bW A3 yr c3] 47)):=cS _;have Jg:(wr.alloc (.cells #[bU eR,bU yn,bV eT,bV eU,bW A3 yr c3] 47)).heap.size=wr.heap.size+1:=ai;have HXw:=aa (C4.o.bZ fO);have C5:=aa (um.o ar[k] s1 s2 s3 s4 _ _ _ _ HXw.o.ea ((ey.mono (S':=fun b=>b≠gm) fun b _ h=>h.1).keep HXw.o.old));generalize eZ G fs ar[k]=z at C5 nZ;have PN:=aa (fun g (e:v.ownBlock=some g)=>C4.o.own.lt g e);have hsz:=C4.o.size;have hal:((ar.take k).map (eZ G fs)).length=k:=(by rw[aap,List.length_take];omega);generalize (ar.take k).map (eZ G fs)=acc at C4 HXw nZ hal;have Mv:=aa hal;clear cM ey oh s1 s2 s3 s4 fO C4 hal um;go_wp2_with fail;refine C5.o.mono ?_;rintro e w5 ⟨cz,rfl,hz,Z_,hK5⟩;have PW:=aa (HXw.o.after (wr:=wr) I8 af (fun g e=>(PN.o g e).2) (Z_.mono (fun b _ h=>h) (fun b h=>Z_.o b h) (fun j h=>h.elim id .inr)) hK5);have hk5:=hK5.1;obtain⟨es,e,hie⟩:=hz;obtain⟨ku,zn,kA,kB,A4,c4,zr,Ai,hes,_⟩:=hie.parts;have HZ0:=aa hie;subst hes e;obtain⟨zx,zN,zL,zF⟩:=z;rw[Jg]at HZ0;have HZ:Hid (eY.is w5 (fun b=>(S b∧b<w.heap.size∨w.heap.size+1+1≤b)∧some b≠v.ownBlock) [bU ku,bU zn,bV kA,bV kB,bW A4 zr c4,bU zN,bU zL,.bool zF] ⟨zx,zN,zL,zF⟩):=
      aa ⟨[_,_,_,_,_],rfl,HZ0.o.mono fun b _ h=>h.elim id fun h=>⟨.inr af,fun e=>by have:=(PN.o b e.symm).2;omega⟩⟩
     have hs5:=PW.o.size;have HSQ:=lI;clear hie Ai HZ0 Z_ hK5 C5 HXw g0 g1 g2 g3 g4 Jg;go_wp2_with (at_builtin;refine dz (R:=eY) (S:=fun b=>S b∧b<w.heap.size∨w.heap.size+1+1≤b) (xs:=acc) (ys:=[⟨zx,zN,zL,zF⟩]) (T:=176) (t:=237) (B:=w.heap.size+1+1) rfl (.tmp 17) (.tmp 21) 237 rfl rfl Jt (PW.o.own.bZ (cS _)) rfl _ 1 1 rfl rfl ?hN ?hl ?hB rfl (n:=acc.length+1) rfl ?_);(case hN=>exact qQ.iM (R:=eY) (cs:=[bU ku,bU zn,bV kA,bV kB,bW A4 zr c4,bU zN,bU zL,.bool zF]) HZ.o _ rfl);(case hl=>rw[Mv.o];omega);(case hB=>first|omega|(simp only[aaI];omega));intro A9 c9 w9 Ba HG;have HX9:=aa (PW.o.more hpe I8 lI.o HG.o);rw[← nZ.o]at HX9;clear HG PW HZ Mv;go_wp2;go_roundw;exact⟨k+1,_,by omega,rfl,rfl,HX9⟩;simp[intOf];omega
    (obtain rfl:k=ar.length:=by omega);rw[List.take_length, ← jS]at C4;obtain⟨Av,cv,hv,_,_⟩:=C4.o.own.slice;subst hv;have F7:(j9 G fs ar).length=ar.length:=(by rw[jS,aap]);have hsz:=C4.o.size;have z0:=C4.o.b0.cell;by_cases ho:op=3
    ·subst ho;clear F7;have hnn:¬findF fs nm<0:=by
      intro h8;have h9:((3:Int)==3&&decide (findF fs nm<0))=false:=HUnk.o;rw[decide_eq_true h8]at h9;cases h9
     obtain⟨jw,hf2⟩:=t_ hnn;have hrj:r (findF fs nm).toNat<R:=ua.o _ (by unfold fT;rw[if_pos rfl];simp);have uo:=aa (fun u:eE wr=>qq FA fc fs nm u.at ((C4.o.ea.bZ u.bZ).sq.mono fun _ _ _=>trivial) (by have:=hX.len;unfold maxLen;omega));rw[jw]at uo;have Ov:=HUne.o;unfold j8 at Ov;have Ov:Hid (((3:Int)==3&&(match fs[(findF fs nm).toNat]? with|some f=>decide (ar.length≠f.params.length)|none=>false))=false):=aa Ov;have oq:Hid (eZ G fs (.mk 3 n un nm ar)=if(G (findF fs nm).toNat).full then lu else match fs[(findF fs nm).toNat]? with|some f=>lF f.params (j9 G fs ar) (G (findF fs nm).toNat).x|none=>lu):=aa PV;generalize (findF fs nm).toNat=j at hf2 hrj uo Ov oq;clear jw hnn;have y0:∀ u:eE wr,b_ u.at pe 0 (.slice FA fs.length fc):=fun u=>u.cell C4.o.ea.mj;have y3:∀ u:eE wr,b_ u.at w.heap.size 3 (.string nm):=fun u=>u.cell (C4.o.b0.cell 3);have Lf:=aa (HBody.o j hf2 hrj);go_upto_region 9 with fail;refine dy 7 (C:=fun w'=>∃ u:eE wr,w'=u.at) ah ah dX.drew ?_;simp only[List.take_succ_cons,List.take_zero,List.drop_succ_cons,List.drop_zero];(repeat (quiet_step (first|((go_at_call 128;exact eC (uo.o _))))));refine wpQuiet_nil ?_;rintro w4 ⟨u,rfl⟩;have HX4:=aa (C4.o.bZ u.bZ);clear y0 y3 z0 uo C4;generalize u.at=w4 at HX4 ⊢;have HC4:=aa (Lf.o _ _ w4 HX4.o.ea);have HOw4:=aa (fun g (e:(Value.slice Av (j9 G fs ar).length cv).ownBlock=some g)=>HX4.o.own.lt g e);go_wp2_with fail;refine HC4.o.mono ?_;rintro e w5 ⟨cz,rfl,hz,Z_,hK5⟩;have PW:=aa (HX4.o.after (wr:=w4) I8 aac (fun g e=>(HOw4.o g e).2) (Z_.mono (fun b _ h=>h) (fun b h=>Z_.o b h) (fun k h=>h.elim id fun h=> .inr af)) hK5);have WZ:=hX.fix j fs[j] (List.getElem?_eq_getElem hf2);have aaa:=aa (show dK (iU fs[j].params) (G j).x=false by rw[WZ];exact Mt _ (hX.one _ (aan hf2)).2.2.1);have Tx:=aa (show E7 (G j) by rw[WZ];exact wM _);have Ty:=aa (show pX (G j) by rw[WZ];exact ue _);have HPl:=aa (hX.one _ (aan hf2)).2.2.2.2;generalize hGj:G j=z at hz oq aaa Tx Ty;obtain⟨es,e,hie⟩:=hz;obtain⟨ku,zn,kA,kB,A4,c4,zr,Ai,hes,_⟩:=hie.parts;have Ld:=aa hie;subst hes e;obtain⟨zx,zN,zL,zF⟩:=z;have hs5:=PW.o.size;clear hie Z_ hK5 HC4 WZ hGj HX4 Lf;cases zF with
     |true=>
      have E6:=aa (PW.o.bZ (cS (.cells #[.int .i64 ku,.int .i64 zn,bV kA,bV kB,bW A4 zr c4,.int .i64 zN,.int .i64 zL,.bool true] 176)));go_upto_region 13 with fail;generalize (w5.alloc (.cells #[.int .i64 ku,.int .i64 zn,bV kA,bV kB,bW A4 zr c4,.int .i64 zN,.int .i64 zL,.bool true] 176))=w6 at E6 ⊢;obtain⟨wF,qE,qF,kF,pZ⟩:=CX E6.o.b1 rfl (.int .i64 0) (.int .i64 0) (bV ⟨#[]⟩) (bV ⟨#[]⟩) cD (.int .i64 0) (.int .i64 0) (.bool true);have zz:=qF.cell;have HE:=aa (E6.o.fin (cs:=[.int .i64 0,.int .i64 0,bV ⟨#[]⟩,bV ⟨#[]⟩,cD,.int .i64 0,.int .i64 0,.bool true]) hpe I8 lI.o Ed.o (Jq _ _) kF (pZ _ _ (aaf _ _) aac));rw[← (show eZ G fs (.mk 3 n un nm ar)=lu from oq.o.trans ai)]at HE;have z1:=E6.o.b1.cell;have f1:=E6.o.b1.frozen;have r6:=aa qE;clear qE qF kF pZ oq Ld Ai;go_wp2_with fail;rw[← r6.o];exact bodyPost_ret (by simp[results,results90,go_sem,zz]) rfl (HP.o _ _ HE.o)
     |false=>
      obtain⟨fb,fo,fcs,hFA,hfS,hfl,fis,fcl⟩:=lI.o.get hf2;subst hFA;rw[List.getElem?_eq_getElem hf2]at oq Ov;generalize fs[j]=f at fis oq aaa HPl Ov;obtain⟨PA,pd,fes,fe,hps,fie⟩:=fis;obtain⟨bop,bn,bun,bnm,BA,bc,br,Mw,fhes,_⟩:=fie.parts;subst fhes fe;have hpl:f.params.length≤6:=HPl.o;have hun:ar.length=f.params.length:=by
       have h9:=Ov.o;have h8:decide (ar.length≠f.params.length)=false:=(by simpa using h9);simpa using h8
      have Om:=aa hun;clear hun;have HW:=aa (show eZ G fs (.mk 3 n un nm ar)=lF f.params (j9 G fs ar) zx from oq.o.trans ai);have E6:=aa (PW.o.bZ (cS (.cells #[bU ku,bU zn,bV kA,bV kB,bW A4 zr c4,bU zN,bU zL,.bool false] 176)));have K9:=aa (show cN (w5.alloc (.cells #[bU ku,bU zn,bV kA,bV kB,bW A4 zr c4,bU zN,bU zL,.bool false] 176)) w5 176 [bU ku,bU zn,bV kA,bV kB,bW A4 zr c4,bU zN,bU zL,.bool false]from heap_alloc_new w5 _);have HZ6:=aa (Ld.o.keep (cB.cA (cS (.cells #[bU ku,bU zn,bV kA,bV kB,bW A4 zr c4,bU zN,bU zL,.bool false] 176))));go_upto_region 12 with fail;generalize (w5.alloc (.cells #[bU ku,bU zn,bV kA,bV kB,bW A4 zr c4,bU zN,bU zL,.bool false] 176))=w6 at E6 K9 HZ6 ⊢;have WV:zx= .mk ku zn kA kB zr:=Ai;have hzN:=Tx.o rfl;have Mx:=Ty.o;unfold pX at Mx;have JA:∀ i v,[bV f.name,bW PA f.params pd,bU bop,bU bn,bV bun,bV bnm,bW BA br bc][i]? =some v→b_ w6 fb (fo+j*7+i) v:=fun i v h=>(World.cell?_of_block (a:=bY fb (fo+j*7+i)) (E6.o.old.2 fb hfl hfS.1)).trans (fcl i v h);have yS:(∀ i,w6.cell? (bY w5 i)=([bU ku,bU zn,bV kA,bV kB,bW A4 zr c4,bU zN,bU zL,.bool false]:List Value)[i]?)∧(b_ w6 pe 0 (bW (bY fb fo) fs fc)∧b_ w6 fb (fo+j*7) (bV f.name)∧b_ w6 fb (fo+j*7+1) (bW PA f.params pd)∧b_ w6 fb (fo+j*7+2) (bU bop)∧b_ w6 fb (fo+j*7+3) (bU bn)∧b_ w6 fb (fo+j*7+4) (bV bun)∧b_ w6 fb (fo+j*7+5) (bV bnm)∧b_ w6 fb (fo+j*7+6) (bW BA br bc)):=
       ⟨K9.o.cell,E6.o.ea.mj,JA 0 _ rfl,JA 1 _ rfl,JA 2 _ rfl,JA 3 _ rfl,JA 4 _ rfl,JA 5 _ rfl,JA 6 _ rfl⟩
      have hd6:Below w6 w6 w6.drew:=dX.jo;have Yz:(j9 G fs ar).length=f.params.length:=(by rw[jS,aap];exact Om.o);have PX:=aa (Tp w6 (fun b=>(S b∧b<w.heap.size∨w.heap.size+1+1≤b)∧b<w6.heap.size) (fun b h=>h.2) f.name PA pd f.params bop bn bun bnm BA br.length bc Av cv (j9 G fs ar) hpl Yz (fun y hy=>by rw[jS]at hy;obtain⟨x,_,rfl⟩:=aat.1 hy;exact ue x) 1000000 aac zx (by have h1:((cE zx:Nat):Int)=zN:=hzN;have h2:zN≤200:=Mx.2.1;omega) aaa.o w6.drew _ ((HZ6.o.keep (cB.cA hd6)).mono fun _ _ _=>trivial) aac
       ((hps.mono (S':=fun b=>b≠gm) fun b _ h=>h.1).keep (E6.o.old.trans (cB.cA hd6)) |>.mono fun _ _ _=>trivial) (((E6.o.own.sq fun b _ h=> .inr h).mono fun b hb h=>⟨h,hb⟩).bZ hd6))
      generalize hzz:lF f.params (j9 G fs ar) zx=zz at PX HW;generalize hfn:f.name=fn at PX yS;generalize hpq:f.params=ps at PX yS;generalize hbk:br.length=bk at PX yS;clear Yz hpl Om fcl JA fie Mw hps oq Ov hd6 hzz hfn hpq hbk hzN Mx Ai WV Ld;have hs6:=E6.o.size;refine cV (S:=fun w'=>(∀ i,w'.cell? (bY w5 i)=([.int .i64 ku,.int .i64 zn,bV kA,bV kB,bW A4 zr c4,.int .i64 zN,.int .i64 zL,.bool false]:List Value)[i]?)∧(b_ w' pe 0 (bW (bY fb fo) fs fc)∧b_ w' fb (fo+j*7) (bV fn)∧b_ w' fb (fo+j*7+1) (bW PA ps pd)∧b_ w' fb (fo+j*7+2) (.int .i64 bop)∧b_ w' fb (fo+j*7+3) (.int .i64 bn)∧b_ w' fb (fo+j*7+4) (bV bun)∧b_ w' fb (fo+j*7+5) (bV bnm)∧b_ w' fb (fo+j*7+6) (bW BA bk bc))) [0,2,6,9,1,3,4,5,7,8] [(0,false),(2,false),(6,false),(9,false),(1,false),(3,false),(4,false),(5,false),(7,false),(8,false),(10,true),(11,true)] ah ah aq rfl ah (yS) ?_;(iterate 10 refine hwr ?_);refine xN fun K hK=>?_;go_simp;refine(PX.o).mono ?_;rintro e w8 ⟨cq,rfl,hq,o_⟩;obtain⟨qes,qe,qie⟩:=hq;obtain⟨qop,qn,qun,qnm,A6,c6,qr,hqx,hqes,_⟩:=qie.parts;have HQ:=aa qie;subst hqes qe;have YA:=aa (E6.o.bZ (dX.jo.trans (o_.mono dX.jo.size)));have hb8s:=o_.size;obtain⟨wF,qE,qF,kF,pZ⟩:=CX YA.o.b1 rfl (.int .i64 qop) (.int .i64 qn) (bV qun) (bV qnm) (bW A6 qr c6) (.int .i64 zz.nodes) (.int .i64 zz.levels) (.bool zz.full);have zF:=qF.cell;have z1:=YA.o.b1.cell;have f1:=YA.o.b1.frozen;have r6:=aa qE;have Rp:=aa (And.intro kF (pZ _ _ (aaf _ _) aac));clear qE qF kF pZ qie hqx o_;refine hK.o _ _ ?_;clear hK K;refine xN fun K hK=>?_;go_simp;refine hK.o _ _ ?_;clear hK K;refine eD ?_;(try go_frame);have HE:=aa (YA.o.fin (cs:=[.int .i64 qop,.int .i64 qn,bV qun,bV qnm,bW A6 qr c6,.int .i64 zz.nodes,.int .i64 zz.levels,.bool zz.full]) (z:=zz) hpe I8 lI.o Ed.o ⟨[_,_,_,_,_],rfl,HQ.o.mono fun b _ h=>h.elim (fun h=>h.1) fun h=> .inr (by have:w6.heap.size≤b:=h;omega)⟩ Rp.o.1 Rp.o.2);have Ze:Hid (nL W0 pe gm (bY fb fo) fc fs G r R S D (eZ G fs (.mk 3 n un nm ar)) w (.returned (.agg #[.int .i64 qop,.int .i64 qn,bV qun,bV qnm,bW A6 qr c6,.int .i64 zz.nodes,.int .i64 zz.levels,.bool zz.full])) wF):=aa (by rw[HW.o];exact HE.o);clear z1 f1 HQ YA E6 yS PX;go_wp2_with fail;rw[← r6.o];exact bodyPost_ret (by simp[results,results90,go_sem,zF]) rfl (HP.o _ _ Ze.o)
    have ho3:(op != 3)=true:=bE;have HW:=aa (show eZ G fs (.mk op n un nm ar)=xO op n un nm 1 1 [] (j9 G fs ar)from PU ho);have HJ:=aa (E5 (fun b=>S b∧b<w.heap.size∨w.heap.size+1+1≤b) op n un nm A2 ar.length c2 Av cv (j9 G fs ar) wr (C4.o.own.sq fun b _ h=> .inr h) af (fun y hy=>by rw[jS]at hy;obtain⟨x,_,rfl⟩:=aat.1 hy;exact ue x));generalize xO op n un nm 1 1 [] (j9 G fs ar)=z at HJ HW;generalize j9 G fs ar=acc at C4 HJ F7 ⊢;clear ho F7;go_wp2_with fail;refine HJ.o.mono ?_;rintro e w5 ⟨cz,rfl,hz,ew⟩;have PW:=aa (C4.o.bZ ew);have hb5s:=ew.size;have hz5:=eY.mono (S':=fun b=>S b∧b<w.heap.size∨w.heap.size+1+1≤b) hz fun b _ h=>h.elim id fun h=> .inr af;obtain⟨es,e,hie⟩:=hz;obtain⟨ku,zn,kA,kB,A4,c4,zr,Ai,hes,_⟩:=hie.parts;subst hes e;obtain⟨zx,zN,zL,zF⟩:=z;obtain⟨wF,qE,qF,kF,pZ⟩:=CX PW.o.b1 rfl (.int .i64 ku) (.int .i64 zn) (bV kA) (bV kB) (bW A4 zr c4) (.int .i64 zN) (.int .i64 zL) (.bool zF);have zz:=qF.cell;have HE:=aa (PW.o.fin (cs:=[.int .i64 ku,.int .i64 zn,bV kA,bV kB,bW A4 zr c4,.int .i64 zN,.int .i64 zL,.bool zF]) hpe I8 lI.o Ed.o hz5 kF (pZ _ _ (aaf _ _) aac));rw[← HW.o]at HE;have z1:=PW.o.b1.cell;have f1:=PW.o.b1.frozen;have r6:=aa qE;clear qE qF kF pZ hie Ai hz5 HW HJ;go_wp2_with fail;rw[← r6.o];exact bodyPost_ret (by simp[results,results90,go_sem,zz]) rfl (HP.o _ _ HE.o)
end
def zeroE:cw:= .mk 0 0 ⟨#[]⟩ ⟨#[]⟩ []
def gy (fs:List cL) (G:Nat→dh) (x:cw):Int×cw:=
 if dK (j7 fs) x then(11,zeroE)else if dK (j8 fs) x then(1,zeroE)else if(eZ G fs x).full then(6,zeroE)else(0,(eZ G fs x).x)
def oM (r:Int×cw) (w:World) (e:Ending) (w':World):Prop:=∃ cs,e= .returned (.tuple #[.agg cs.toArray,bU r.1])∧cH w' (fun b=>w.heap.size≤b) cs r.2∧Below w w w'
theorem wQ (w:World) (S:Nat→Prop):cH w S [bU 0,bU 0,bV ⟨#[]⟩,bV ⟨#[]⟩,cD] zeroE:=
 .mk 0 0 ⟨#[]⟩ ⟨#[]⟩ none 0 [] [] rfl (fun h=>absurd rfl h) (fun j cs x h=>by simp at h)
theorem pO (FA:Option Addr) (fc:Nat) (fs:List cL) (G:Nat→dh) (r:Nat→Nat) (hX:wP fs G r) (hF:yu fs) (C6:gU fs=0) (x:cw) (hx:cE x≤1000000) (hr:fB x=true) (hsm:lZ x) (w:World) (cs:List Value) (hs:Sq gR w Any FA fs) (hI:cH w Any cs x):Calls prog 42 #[.agg cs.toArray,bW FA fs fc] w (oM (gy fs G x) w):=by
 generalize hP:oM (gy fs G x) w=P;have HP:=aa (show ∀ e w',oM (gy fs G x) w e w'→P e w' from fun e w' h=>hP▸h);clear hP;have HIx:=aa hI;have lI:=aa hs;have fH:=aa (fun W (hb:Below w w W)=>qm x cs W (hI.keep (cB.cA hb)) hsm);rw[hr]at fH;have xQ:=aa (fun W (hb:Below w w W)=>uW FA fc fs W (hs.bZ hb) hF hX.len);rw[C6]at xQ;(have hlf:fs.length≤1000000000:=by have:=hX.len;omega);have HU:=aa (fun W (hW:Below w w W)=>wK FA fc fs W (hs.bZ hW) hlf);have HV:=aa (fun W (hW:Below w w W)=>zY FA fc fs W (hs.bZ hW) hlf);have ux:=aa (fun(pf:Nat) (W:World) (hW:Below w w W) (h:uR pf FA fc fs W)=>
  qs Cm (lb:=#[.pointer (bY pf 0)]) (j7 fs) (uR pf FA fc fs) (fun _=>True) (fun _ _ _ _=>trivial) (fun h hb=>h.bZ hb) (fun W cs y _ hQ hI=>I2 pf _ fc fs W cs y hQ hI) x hx W cs trivial h (hI.keep (cB.cA hW)))
 have CP:=aa (fun(hk:dK (j7 fs) x=false) (pf:Nat) (W:World) (hW:Below w w W) (h:uR pf FA fc fs W)=>
  qs zO (lb:=#[.pointer (bY pf 0)]) (j8 fs) (uR pf FA fc fs) (fun x=>dK (j7 fs) x=false) (fun x hx y hy=>kr hx hy) (fun h hb=>h.bZ hb) (fun W cs y hy hQ hI=>EK pf _ fc fs W cs y hQ hI (jD hy)) x hx W cs hk h (hI.keep (cB.cA hW)))
 obtain⟨op,n,un,nm,A2,c2,ar,e1,e2,_⟩:=cH.parts hI;subst e2;have a1:(w.alloc (.cells #[bU op,bU n,bV un,bV nm,bW A2 ar c2] 47)).heap.size=w.heap.size+1:=ai;have k1:=heap_alloc_new (w.alloc (.cells #[bU op,bU n,bV un,bV nm,bW A2 ar c2] 47)) (.cells #[bU 0,bU 0,bV ⟨#[]⟩,bV ⟨#[]⟩,cD] 47);rw[a1]at k1;have K0:Hid (cN ((w.alloc (.cells #[bU op,bU n,bV un,bV nm,bW A2 ar c2] 47)).alloc (.cells #[bU 0,bU 0,bV ⟨#[]⟩,bV ⟨#[]⟩,cD] 47)) w 47 [bU op,bU n,bV un,bV nm,bW A2 ar c2]):=aa ((heap_alloc_old _ _ aU).trans (heap_alloc_new w _));have K1:Hid (cN ((w.alloc (.cells #[bU op,bU n,bV un,bV nm,bW A2 ar c2] 47)).alloc (.cells #[bU 0,bU 0,bV ⟨#[]⟩,bV ⟨#[]⟩,cD] 47)) (w+1) 47 [bU 0,bU 0,bV ⟨#[]⟩,bV ⟨#[]⟩,cD]):=aa k1;have dG:=aa (show Below w w ((w.alloc (.cells #[bU op,bU n,bV un,bV nm,bW A2 ar c2] 47)).alloc (.cells #[bU 0,bU 0,bV ⟨#[]⟩,bV ⟨#[]⟩,cD] 47))from(cS _).alloc aU _);have oq:=aa (show gy fs G x=if dK (j7 fs) x then(11,zeroE)else if dK (j8 fs) x then(1,zeroE)else if(eZ G fs x).full then(6,zeroE)else(0,(eZ G fs x).x)from rfl);generalize gy fs G x=res at HP oq;clear hs hI k1 a1 C6 hr e1;go_enter func42,ntmps42;go_upto_region 1 with fail;generalize ((w.alloc (.cells #[bU op,bU n,bV un,bV nm,bW A2 ar c2] 47)).alloc (.cells #[bU 0,bU 0,bV ⟨#[]⟩,bV ⟨#[]⟩,cD] 47))=w2 at K0 K1 dG ⊢;have y2:=K0.o.cell;go_wp2_with fail;refine(fH.o _ dG.o).mono ?_;rintro e w3 ⟨rfl,hb3⟩;have eF:=aa hb3;clear hb3 y2;go_wp2_with fail;refine(xQ.o _ (dG.o.trans (eF.o.mono dG.o.size))).mono ?_;rintro e w4 ⟨rfl,hb4⟩;have gC:=aa (eF.o.trans (hb4.mono eF.o.size));have Jk:=aa (fun W (q:Below w2 w2 W)=>(K0.o.bZ q K0.o.lt).cell);have oG:=aa (fun W (q:Below w2 w2 W)=>K1.o.bZ q K1.o.lt);have HU:=aa (fun W (q:Below w2 w2 W)=>HU.o W (dG.o.trans (q.mono dG.o.size)));have HV:=aa (fun W (q:Below w2 w2 W)=>HV.o W (dG.o.trans (q.mono dG.o.size)));have ux:=aa (fun pf W (q:Below w2 w2 W) h=>ux.o pf W (dG.o.trans (q.mono dG.o.size)) h);have CP:=aa (fun hk pf W (q:Below w2 w2 W) h=>CP.o hk pf W (dG.o.trans (q.mono dG.o.size)) h);have hz2:=dG.o.size;have hs1:=K1.o.lt;have y4:=Jk.o w4 gC.o;clear hb4 fH xQ eF K0 K1;go_wp2_with fail;refine cV (S:=fun w'=>∀ j,w'.cell? (bY w j)=([bU op,bU n,bV un,bV nm,bW A2 ar c2]:List Value)[j]?) [0,1,4] [(0,false),(1,false),(2,true),(3,true),(4,false)] ah ah aq rfl ah (y4) ?_;refine hwr ?_;refine hwr ?_;refine hwt fun K hK=>?_;go_simp;have HBd5:=aa (gC.o.trans (dX.jo.mono gC.o.size));refine(HU.o _ HBd5.o).mono ?_;rintro e w5a ⟨rfl,hf5a,hb5a⟩;have W4:=aa (HBd5.o.trans (hb5a.mono HBd5.o.size));have y5a:=Jk.o w5a W4.o;have HF5a:=aa hf5a;clear hb5a hf5a;refine hK.o _ _ (y5a) ?_;clear hK K;refine hwt fun K hK=>?_;go_simp;refine(ux.o _ w5a W4.o HF5a.o).mono ?_;rintro e w5b ⟨rfl,hb5b⟩;have My:=aa (W4.o.trans (hb5b.mono W4.o.size));have y5b:=Jk.o w5b My.o;clear hb5b;refine hK.o _ _ (y5b) ?_;clear hK K;refine hwr ?_;refine eD ?_;(try go_frame);clear y4 y5a HF5a;cases hu:dK (j7 fs) x with
 |true=>
  have W5:=aa (show res=(11,zeroE) by rw[oq.o,hu];rfl);clear oq CP Jk;obtain⟨wF,qE,qF,_,pZ⟩:=Jw (oG.o w5b My.o) (.int .i64 0) (.int .i64 0) (bV ⟨#[]⟩) (bV ⟨#[]⟩) cD;have zz:=qF.cell;have HE:=aa (show oM (11,zeroE) w (.returned (.tuple #[.agg #[.int .i64 0,.int .i64 0,bV ⟨#[]⟩,bV ⟨#[]⟩,cD],.int .i64 11])) wF from⟨_,rfl,wQ _ _,pZ _ _ (dG.o.trans (My.o.mono dG.o.size)) af⟩);have z1:=(oG.o w5b My.o).cell;have f1:=(oG.o w5b My.o).frozen;have r6:=aa qE;rw[← W5.o]at HE;clear qE qF pZ W5;go_wp2_with fail;rw[← r6.o];exact bodyPost_ret bD rfl (HP.o _ _ HE.o)
 |false=>
  have hk0:=aa hu;have CP:=aa (CP.o hu);go_wp2_with fail;refine cV (S:=fun w'=>∀ j,w'.cell? (bY w j)=([bU op,bU n,bV un,bV nm,bW A2 ar c2]:List Value)[j]?) [0,1,4] [(0,false),(1,false),(2,true),(3,true),(4,false)] ah ah aq rfl ah (y5b) ?_;refine hwr ?_;refine hwr ?_;refine hwt fun K hK=>?_;go_simp;have HBd6:=aa (My.o.trans (dX.jo.mono My.o.size));refine(HV.o _ HBd6.o).mono ?_;rintro e w6a ⟨rfl,hf6a,hb6a⟩;have W6:=aa (HBd6.o.trans (hb6a.mono HBd6.o.size));have y6a:=Jk.o w6a W6.o;have HF6a:=aa hf6a;clear hb6a hf6a;refine hK.o _ _ (y6a) ?_;clear hK K;refine hwt fun K hK=>?_;go_simp;refine(CP.o _ w6a W6.o HF6a.o).mono ?_;rintro e uE ⟨rfl,hb6b⟩;have Ee:=aa (W6.o.trans (hb6b.mono W6.o.size));have y6b:=Jk.o uE Ee.o;clear hb6b;refine hK.o _ _ (y6b) ?_;clear hK K;refine hwr ?_;refine eD ?_;(try go_frame);clear y5b y6a HF6a;cases hv:dK (j8 fs) x with
  |true=>
   have W5:=aa (show res=(1,zeroE) by rw[oq.o,hu,hv];rfl);clear oq CP Jk;obtain⟨wF,qE,qF,_,pZ⟩:=Jw (oG.o uE Ee.o) (.int .i64 0) (.int .i64 0) (bV ⟨#[]⟩) (bV ⟨#[]⟩) cD;have zz:=qF.cell;have HE:=aa (show oM (1,zeroE) w (.returned (.tuple #[.agg #[.int .i64 0,.int .i64 0,bV ⟨#[]⟩,bV ⟨#[]⟩,cD],.int .i64 1])) wF from⟨_,rfl,wQ _ _,pZ _ _ (dG.o.trans (Ee.o.mono dG.o.size)) af⟩);have z1:=(oG.o uE Ee.o).cell;have f1:=(oG.o uE Ee.o).frozen;have r6:=aa qE;rw[← W5.o]at HE;clear qE qF pZ W5;go_wp2_with fail;rw[← r6.o];exact bodyPost_ret bD rfl (HP.o _ _ HE.o)
  |false=>
   have hB6:=dG.o.trans (Ee.o.mono dG.o.size);have hz6:=Ee.o.size;have HE7:Hid (mM uE (uE+1) uE FA fc fs G (fun _=>False) (fun _=>False) ((uE.alloc (.map #[] 0)).alloc (.cells #[bW FA fs fc,.map (some uE.heap.size)] 174))):=by
    have hb1:Below uE uE (uE.alloc (.map #[] 0)):=cS _;have a1:(uE.alloc (.map #[] 0)).heap.size=uE.heap.size+1:=ai;have k2:=heap_alloc_new (uE.alloc (.map #[] 0)) (.cells #[bW FA fs fc,.map (some uE.heap.size)] 174);rw[a1]at k2;have hb2:=hb1.alloc aU (.cells #[bW FA fs fc,.map (some uE.heap.size)] 174);exact aa ⟨cN.cell k2 0,cN.cell k2 1,⟨0,_,(jb.made uE).alloc _,by unfold E8;exact aaC (by rw[Nat.zero_add];exact List.countP_le_length) ai,fun k v h=>by cases h⟩,by rw[aaI,a1];omega,by rw[aaI,a1];omega,by omega,((lI.o.bZ hB6).mono (S':=fun b=>b≠uE.heap.size) fun b hb _=>by omega).bZ hb2,fun b h=>h.elim,hb2⟩
   have nE:Below uE uE ((uE.alloc (.map #[] 0)).alloc (.cells #[bW FA fs fc,.map (some uE.heap.size)] 174)):=HE7.o.low;have C5:=aa (Jz uE (uE+1) uE FA fc fs G r hX (((fT fs x).map r).sum+1) 1000000 aac x hx (fun j hj=>by have:=Tm (aat.2 ⟨j,hj,rfl⟩:r j∈(fT fs x).map r);omega) hu hv _ _ _ _ HE7.o (((HIx.o.keep (cB.cA hB6)).mono (S':=fun b=>b≠uE.heap.size) fun b hb _=>by omega).keep (cB.cA nE)));have PY:=aa (show res=if(eZ G fs x).full then(6,zeroE)else(0,(eZ G fs x).x) by rw[oq.o,hu,hv];rfl);have Tx:=aa (wM (G:=G) (fs:=fs) x);have Ty:=aa (ue (G:=G) (fs:=fs) x);have K0:=aa (Jk.o uE Ee.o);have hmm:=@run_makeMap prog;clear oq HU HV ux CP Jk;go_upto_region 8 with fail;clear hmm;generalize ((uE.alloc (.map #[] 0)).alloc (.cells #[bW FA fs fc,.map (some uE.heap.size)] 174))=w7 at HE7 C5 nE ⊢;have y7:∀ j,w7.cell? (bY w j)=([bU op,bU n,bV un,bV nm,bW A2 ar c2]:List Value)[j]? :=fun j=>(nE.cell (p:=bY w j) (by show w.heap.size<uE;omega)).trans (K0.o j);have ko:=aa nE;clear nE y6b hB6;go_wp2_with fail;refine C5.o.mono ?_;rintro e w8 ⟨cz,rfl,hz,hE8,hK8⟩;generalize eZ G fs x=z at hz PY Tx Ty;obtain⟨es,e,hie⟩:=hz;obtain⟨ku,zn,kA,kB,A4,c4,zr,Ai,hes,_⟩:=hie.parts;have HZ:=aa hie;subst hes e;obtain⟨zx,zN,zL,zF⟩:=z;have HL8:=aa hE8.low;have hk1:cN w8 (w+1) 47 [bU 0,bU 0,bV ⟨#[]⟩,bV ⟨#[]⟩,cD]:=(HL8.o.block _ af).trans (oG.o uE Ee.o);have hz8:=HL8.o.size;have Rp:=aa hk1;have hBw:=(dG.o.trans (Ee.o.mono dG.o.size)).trans (HL8.o.mono af);have cG:=aa hBw;clear hie hE8 hK8 y7 C5 hk1 hBw;cases zF with
   |true=>
    have je:=aa (show Below w8 w8 (w8.alloc (.cells #[.int .i64 ku,.int .i64 zn,bV kA,bV kB,bW A4 zr c4,.int .i64 zN,.int .i64 zL,.bool true] 176))from cS _);have hp1:=Rp.o.lt;go_upto_region 10 with fail;generalize (w8.alloc (.cells #[.int .i64 ku,.int .i64 zn,bV kA,bV kB,bW A4 zr c4,.int .i64 zN,.int .i64 zL,.bool true] 176))=w9 at je ⊢;have k9:=Rp.o.bZ je.o hp1;obtain⟨wF,qE,qF,_,pZ⟩:=Jw k9 (.int .i64 0) (.int .i64 0) (bV ⟨#[]⟩) (bV ⟨#[]⟩) cD;have zz:=qF.cell;have HE:=aa (show oM (6,zeroE) w (.returned (.tuple #[.agg #[.int .i64 0,.int .i64 0,bV ⟨#[]⟩,bV ⟨#[]⟩,cD],.int .i64 6])) wF from⟨_,rfl,wQ _ _,pZ _ _ (cG.o.trans (je.o.mono cG.o.size)) af⟩);rw[← (show res=(6,zeroE)from PY.o)]at HE;have z1:=k9.cell;have f1:=k9.frozen;have r6:=aa qE;clear qE qF pZ k9;go_wp2_with fail;rw[← r6.o];exact bodyPost_ret bD rfl (HP.o _ _ HE.o)
   |false=>
    have je:=aa (show Below w8 w8 (w8.alloc (.cells #[.int .i64 ku,.int .i64 zn,bV kA,bV kB,bW A4 zr c4,.int .i64 zN,.int .i64 zL,.bool false] 176))from cS _);have K9:=aa (show cN (w8.alloc (.cells #[.int .i64 ku,.int .i64 zn,bV kA,bV kB,bW A4 zr c4,.int .i64 zN,.int .i64 zL,.bool false] 176)) w8 176 [.int .i64 ku,.int .i64 zn,bV kA,bV kB,bW A4 zr c4,.int .i64 zN,.int .i64 zL,.bool false]from heap_alloc_new w8 _);have hp1:=Rp.o.lt;go_upto_region 11 with fail;generalize (w8.alloc (.cells #[.int .i64 ku,.int .i64 zn,bV kA,bV kB,bW A4 zr c4,.int .i64 zN,.int .i64 zL,.bool false] 176))=w9 at je K9 ⊢;have hzN:=Tx.o rfl;have Mx:=Ty.o;unfold pX at Mx;have HCp:=aa (Jx 1000000 aac zx (by have h1:((cE zx:Nat):Int)=zN:=hzN;have h2:zN≤200:=Mx.2.1;omega) w9 _ ((HZ.o.keep (cB.cA je.o)).mono fun _ _ _=>trivial));have y9:=K9.o.cell;have hz9:=je.o.size;clear hzN Mx Ai;go_wp2_with fail;refine HCp.o.mono ?_;rintro e wa ⟨cq,rfl,hq,hba⟩;obtain⟨qop,qn,qun,qnm,A6,c6,qr,hqx,hqes,_⟩:=cH.parts hq;have HQ:=aa hq;subst hqes;have hbA:=je.o.trans (hba.mono je.o.size);have ka:=Rp.o.bZ hbA hp1;obtain⟨wF,qE,qF,kF,pZ⟩:=Jw ka (.int .i64 qop) (.int .i64 qn) (bV qun) (bV qnm) (bW A6 qr c6);have zz:=qF.cell;have HE:=aa (show oM (0,zx) w (.returned (.tuple #[.agg #[.int .i64 qop,.int .i64 qn,bV qun,bV qnm,bW A6 qr c6],.int .i64 0])) wF from⟨_,rfl,(HQ.o.keep ⟨kF.1,fun b hb h=>kF.2 b hb af⟩).mono fun b _ h=>by have:=cG.o.size;omega,pZ _ _ (cG.o.trans (hbA.mono cG.o.size)) af⟩);rw[← (show res=(0,zx)from PY.o)]at HE;have z1:=cN.cell ka;have f1:=cN.frozen ka;have r6:=aa qE;clear qE qF pZ kF ka hbA hq hqx hba;go_wp2_with fail;rw[← r6.o];exact bodyPost_ret bD rfl (HP.o _ _ HE.o)
end
section
open Go Go.RowKit Go.Proofs Sh Kb
section
theorem wR {s:ByteArray} {n:Nat} (h:s.size≤n) (hn:n≤1000):Ms s:=by
 (have:1048576≤maxLen:=by decide);unfold Ms;omega
theorem Mz {s:ByteArray} (h:kQ s=true):s.size≤400:=by
 unfold kQ at h;simp only[aag,decide_eq_true_eq]at h;exact h.1
theorem MB {op n:Int} {u nm:ByteArray} {k:Nat} (h:qi op n u nm k=true):u.size≤400∧nm.size≤20:=by
 have key:∀ {x:ByteArray},jJ x=true→x.size=0:=fun h=>lN h;unfold qi at h;split at h
 (·simp only[aag]at h;exact⟨Mz h.1.1.1.1,by have:=lN h.1.2;omega⟩);split at h
 (·cases h)
 ·next q=>
  have hu:jJ u=true:=by simpa using (by simpa using q:_∧_).2
  have hu0:=lN hu
  refine⟨by omega,?_⟩
  repeat' split at h
  all_goals simp only[aag]at h
  ·
   exact tS h.1
  ·
   exact tS h.1
  ·
   exact tS h.1.1
  ·
   have:=lN h.1;omega
  ·
   have:=lN h.1;omega
  ·
   have:=lN h.1;omega
  ·
   have:=lN h.1.2;omega
mutual
theorem E9:∀ x:cw,gK x=true→lZ x
 | .mk op n u nm l,h=>by
  simp only[gK,aag]at h;obtain⟨h1,h2⟩:=MB h.1;exact⟨wR h1 ak,wR h2 ak,C7 l h.2⟩
theorem C7:∀ l:List cw,lK l=true→Vv l
 |[],_=>trivial
 |x :: l,h=>by
  simp only[lK,aag]at h;exact⟨E9 x h.1,C7 l h.2⟩
end
theorem gN {x:cw} (h:fB x=true):lZ x∧cE x≤1000000:=by
 unfold fB at h;simp only[aag,decide_eq_true_eq]at h;exact⟨E9 x h.2,by omega⟩
theorem Bx {u:ByteArray} {b:Bool} (h:(cR u&&b)=true):Ms u:=by
 rw[aag]at h;exact wR (oD h.1) ak
theorem jE {u:ByteArray} (h:dY u=true):Ms u:=wR (tS h) ak
theorem C8 {l:List ByteArray} {a b:Nat} (h:ez l a b=true) (hb:b≤100):(∀ s∈l,Ms s)∧l.length≤100:=
 ⟨fun s hs=>jE ((Ch h).2 s hs),by have:=(Ch h).1;omega⟩
theorem MC {x:pF} (h:iJ x=true):Cb x∧x.inp.length≤100∧x.o.length≤100∧x.cells.length≤100:=by
 have hm:1048576≤maxLen:=ak;unfold iJ at h;split at h
 (·cases h);simp only[aag]at h;obtain⟨⟨⟨⟨h1,h2⟩,h3⟩,h4⟩,_⟩:=h;obtain⟨_,s1,s2⟩:=IW x.kind;obtain⟨a1,a2⟩:=C8 h1 s1;obtain⟨b1,b2⟩:=C8 h2 s2;obtain⟨c1,c2⟩:=C8 h3 (by split<;>omega);refine⟨⟨⟨a1,by omega⟩,⟨b1,by omega⟩,?_,⟨c1,by omega⟩⟩,a2,b2,c2⟩;split at h4
 (·exact jE h4);exact wR (Nat.le_of_eq (lN h4)) ak
theorem PZ {s:cK} (h:fV s=true):Lit s:=by
 have hm:1048576≤maxLen:=ak;have R:=iC h;have hl:=R.len;(have hi:(xU s).length=(uses s).length:=by simp only[xU,uses,gP,iA,aao,aap];omega);have hu:(uses s).length=s.imports.length+s.inputs.length+s.ei.length+s.stores.length+(s.tables.length+s.funcs.length+s.cells.length):=(by simp only[uses,gP,iA,aao,aap]);have hT:∀ t∈s.tables,t.rows.length≤100∧Ms t.unit:=fun t ht=>by
  have:=(R.tables t ht).2;unfold gG at this;simp only[aag,decide_eq_true_eq]at this;exact⟨this.1.2,wR (oD this.1.1.1) ak⟩
 have hF:∀ f∈s.funcs,f.params.length≤6∧(∀ q∈f.params,wh q)∧lZ f.body∧cE f.body≤1000000:=fun f hf=>by
  have:=(R.funcs f hf).2;unfold mZ at this;simp only[aag,decide_eq_true_eq]at this;refine⟨this.2.1.2,fun q hq=>?_,gN this.2.2⟩;have hq:=List.all_eq_true.1 this.1 q hq;unfold nH at hq;rw[aag]at hq;exact⟨jE hq.1,wR (oD hq.2) ak⟩
 have hC:∀ c∈s.cells,Ms c.unit∧lZ c.kY∧cE c.kY≤1000000:=fun c hc=>by
  have:=(R.cells c hc).2;unfold nR at this;rw[aag]at this;exact⟨wR (oD this.1) ak,gN this.2⟩
 have hR:∀ r∈s.cI,r.steps.length≤100∧∀ y∈r.steps,Cb y∧y.inp.length≤100∧y.o.length≤100∧y.cells.length≤100:=fun r hr=>by
  have:=(R.cI r hr).2;unfold fZ at this;simp only[aag,decide_eq_true_eq]at this;exact⟨this.1,fun y hy=>MC (List.all_eq_true.1 this.2 y hy)⟩
 refine⟨⟨jE R.name,fun x hx=>?_,fun x hx=>?_,fun x hx=>⟨jE (R.tables x hx).1,(hT x hx).2,by have:=(hT x hx).1;omega⟩,fun x hx=>⟨jE (R.funcs x hx).1,by have:=(hF x hx).1;omega,(hF x hx).2.1,(hF x hx).2.2.1⟩,
  fun x hx=>⟨jE (R.cells x hx).1,(hC x hx).1,(hC x hx).2.1⟩,fun x hx=>⟨jE (R.ei x hx).1,Bx (R.ei x hx).2⟩,fun x hx=>⟨jE (R.stores x hx).1,Bx (R.stores x hx).2⟩,
  fun x hx=>⟨jE (R.cI x hx).1,by have:=(hR x hx).1;omega,fun y hy=>((hR x hx).2 y hy).1⟩,by omega⟩,by omega,by omega,by omega,by omega,by omega,by omega,
  fun t ht=>by have:=(hT t ht).1;omega,fun r hr=>⟨by have:=(hR r hr).1;omega,fun y hy=>by have:=((hR r hr).2 y hy).2;omega⟩,fun f hf=>⟨(hF f hf).2.2.2,by have:=(hF f hf).1;omega⟩,fun c hc=>(hC c hc).2.2⟩
 (·have h2:=(R.imports x hx).2;refine⟨jE (R.imports x hx).1,Bx h2,?_⟩;rw[aag]at h2;unfold gL at h2;simp only[aag]at h2;exact jE h2.2.2);have h2:=(R.inputs x hx).2;refine⟨jE (R.inputs x hx).1,Bx h2,?_⟩;rw[aag]at h2;have h3:=h2.2;unfold jC at h3;rw[Bool.or_eq_true]at h3;rcases h3 with h3|h3
 (·exact wR (Nat.le_of_eq (lN h3)) ak);exact jE h3
end
end
open Go Go.RowKit Bg Go.Proofs Sh Kb
theorem JB {c:UInt8} (h:32≤c.toNat∧c.toNat≤126):jB c=true:=by
 unfold jB;simp only[aag,decide_eq_true_eq,UInt8.le_iff_toNat_le];exact h
theorem GF {c:UInt8} (h:cW c=true):jB c=true:=by
 unfold cW at h;simp only[Bool.or_eq_true,aag,decide_eq_true_eq,UInt8.le_iff_toNat_le]at h;refine JB ?_;rcases h with h|h
 (·have h1:97≤c.toNat:=h.1;have h2:c.toNat≤122:=h.2;omega);have h1:65≤c.toNat:=h.1;have h2:c.toNat≤90:=h.2;omega
theorem E_ {p:UInt8→Bool} {c:UInt8}:∀ {l:Bytes},c∈l.takeWhile p→p c=true
 |[],h=>by simp at h
 |a :: l,h=>by
  rw[List.takeWhile_cons]at h;split at h
  ·next ha=>
   rcases aas.1 h with rfl|h
   (·exact ha);exact E_ h
  simp at h
theorem P0 {t:Bytes} (h:∀ c∈(Sh.eZ t).2,jB c=true):∀ c∈t,jB c=true:=by
 cases t with
 |nil=>intro c hc;simp at hc
 |cons d u=>
  have h0:=h;unfold Sh.eZ at h;by_cases hd:(50≤d&&d≤57)=true
  ·simp only[hd,if_true]at h;intro c hc;rcases aas.1 hc with rfl|hc
   (·simp only[aag,decide_eq_true_eq,UInt8.le_iff_toNat_le]at hd;have h1:50≤c.toNat:=hd.1;have h2:c.toNat≤57:=hd.2;exact JB af);exact h c hc
  have e:(Sh.eZ (d :: u)).2=d :: u:=by
   show(if(50≤d&&d≤57)=true then((d.toNat:Int) - 48,u)else(1,d :: u)).2=_;rw[if_neg hd]
  intro c hc;exact h0 c (by rw[e];exact hc)
theorem sU:∀ (k:Nat) (s:Bytes) (l:List iP),lJ k s=some l→∀ c∈s,jB c=true
 |0,s,l,h=>by
  unfold lJ at h;by_cases hs:s=[]
  (·subst hs;intro c hc;simp at hc);rw[if_neg hs]at h;cases h
 |k+1,[],l,h=>by intro c hc;simp at hc
 |k+1,g :: r,l,h=>by
  unfold lJ at h;simp only at h;split at h
  (·cases h);next hc=>
  simp only[Bool.or_eq_true,decide_eq_true_eq,not_or,Bool.not_eq_true']at hc;cases hi:lJ k (Sh.eZ (r.dropWhile cW)).2 with
  |none=>rw[hi]at h;cases h
  |some m=>
   have hr:=P0 (sU k _ m hi);intro c hcm;rcases aas.1 hcm with rfl|hcm
   ·have hg:=hc.2;by_cases h1:c=42
    (·subst h1;decide);by_cases h2:c=47
    (·subst h2;decide);simp[h1,h2]at hg
   rw[← List.takeWhile_append_dropWhile (p:=cW) (l:=r)]at hcm;rcases aar.1 hcm with hcm|hcm
   (·exact GF (E_ hcm));exact hr c hcm
theorem JC {s:ByteArray} (h:cR s=true):kQ s=true:=by
 have hz:=oD h;unfold kQ;simp only[aag,decide_eq_true_eq];refine⟨by omega,List.all_eq_true.2 ?_⟩;unfold cR jI at h;cases hi:gF s.data.toList with
 |none=>rw[hi]at h;simp at h
 |some l=>
  unfold gF at hi;split at hi
  (·(next e=>intro c hc;rw[e]at hc;simp at hc));next c0 r e=>
  split at hi
  ·split at hi
   ·next WE=>
    intro c hc;rw[e]at hc;rcases aas.1 hc with rfl|hc
    (·rw[WE];decide);exact sU _ _ _ hi c hc
   intro c hc;exact sU _ _ _ hi c (List.mem_cons_of_mem _ hc)
  cases hi
theorem MD {fs:List cL} (h:(fs.map (·.name)).Nodup) {i:Nat} (hi:i<fs.length):findF fs fs[i].name=(i:Int):=by
 unfold findF AX;rw[List.findIdx?_eq_some_iff_getElem.2 ⟨hi,by unfold Lb;simp,fun j hj=>by
  have hj':j<fs.length:=af;have hne:fs[j].name≠fs[i].name:=by
   have:=List.pairwise_iff_getElem.1 h j i (by simpa using hj') aX hj;simpa using this
  unfold Lb;simpa using hne⟩]
theorem wS {s:cK} (h:fV s=true) (hz:gj s):yu s.funcs:=by
 have R:=iC h;refine⟨fun f hf=>?_,fun i hi=>MD ?_ hi⟩
 ·obtain⟨h1,h2⟩:=R.funcs f hf;unfold mZ at h2;simp only[aag,decide_eq_true_eq]at h2;obtain⟨p,⟨q1,q2⟩,q3⟩:=h2;have hp:∀ q∈f.params,dY q.name=true∧cR q.unit=true:=fun q hq=>by
   have:=List.all_eq_true.1 p q hq;unfold nH at this;simpa using this
  exact⟨⟨h1,q1,q2,fun q hq=>⟨(hp q hq).1,JC (hp q hq).2,(hz.funcs f hf).each q hq⟩,q3,hz.funcs f hf⟩,(gN q3).2,fun q hq=>(hp q hq).2⟩
 have hn:=(sJ h).1;have:(s.funcs.map (·.name)).Sublist ((uses s).map (·.1)):=by
  simp only[uses,iA,List.map_append,List.map_map];exact List.Sublist.trans (List.Sublist.trans (by exact List.sublist_append_right _ _) (List.sublist_append_left _ _)) (List.sublist_append_right _ _)
 exact hn.sublist this
theorem ME {fs:List cL} (hF:yu fs) (hl:fs.length≤1000000) (h:gU fs=0):∃ G r,wP fs G r:=by
 unfold gU at h;split at h
 (·cases h);split at h
 ·next h0=>
  have hc:Gw fs=false:=(by cases hc:Gw fs<;>simp_all);have hb:Jo fs:=fun f hf=>⟨(sR (pN h0 f hf)).2.2.1,(hF.one f hf).2.1⟩;obtain⟨r,hr⟩:=Tr hb hc;obtain⟨G,hG⟩:=Jy hr;refine⟨G,r,hG,hr,fun f hf=>?_,hl⟩;obtain⟨_,c2,c3,c4⟩:=sR (pN h0 f hf);exact⟨c3,c4,c2,(hF.one f hf).2.1,(hF.one f hf).1.hi⟩
 (next h0=>exact absurd h h0)
section
section
variable {p:ByteArray} {d:Nat} {fs fs':List cL}
theorem op3 {op n:Int} {u nm:ByteArray} {l:List cw} {P:Bool}:((cw.mk op n u nm l).op==3&&P)=if op=3 then P else false:=by
 show(op==3&&P)=_;by_cases h:op=3
 (·rw[if_pos h,h];simp);rw[if_neg h,show(op==3)=false by simpa using h];rfl
theorem op1 {op n:Int} {u nm:ByteArray} {l:List cw} {P:Bool}:((cw.mk op n u nm l).op==1&&P)=if op=1 then P else false:=by
 show(op==1&&P)=_;by_cases h:op=1
 (·rw[if_pos h,h];simp);rw[if_neg h,show(op==1)=false by simpa using h];rfl
theorem known {op n:Int} {u nm:ByteArray} {l:List cw} (h:j7 fs (.mk op n u nm l)=false) (ho:op=3):¬findF fs nm<0:=by
 unfold j7 at h;rw[op3,if_pos ho]at h;exact of_decide_eq_false h
end
end
end Go.Proofs.YtfppbjfnllhgcaaGreat
namespace Kn
def ins (k:Nat):List Nat→List Nat
 |[]=>[k]
 |a :: l=>if k≤a then k :: a :: l else a :: ins k l
abbrev St:=List Int×List Nat
def less (s:St) (k:Nat):St:=(s.1.set k (s.1.getD k 0 - 1),if(s.1.set k (s.1.getD k 0 - 1)).getD k 0=0 then ins k s.2 else s.2)
def gO (us:List Nat) (s:St):St:=us.foldl less s
def Ef (U:List (List Nat)):Nat→St→List Nat
 |0,_=>[]
 |_+1,(_,[])=>[]
 |f+1,(l,i :: q)=>i :: Ef U f (gO (U.getD i []) (l,q))
def iy (g:List (List Nat)) (n k:Nat):List Nat:=(aav n).filter fun i=>(g.getD i []).contains k
def nA (g:List (List Nat)):List (List Nat):=(aav g.length).map (iy g g.length)
def gW (g:List (List Nat)) (n:Nat):List Nat:=(aav n).filter fun i=>(g.getD i []).isEmpty
def lens (g:List (List Nat)):List Int:=g.map fun l=>(l.length:Int)
def oN (g:List (List Nat)):List Nat:=Ef (nA g) (2*g.length+1) (lens g,gW g g.length)
def jF (g:List (List Nat)):Option (List Nat):=if(oN g).length<g.length then none else some (oN g)
theorem sV (k:Nat):∀ l:List Nat,(ins k l).Perm (k :: l)
 |[]=>by unfold ins;exact List.Perm.refl _
 |a :: l=>by
  unfold ins;split
  (·exact List.Perm.refl _);exact((sV k l).cons a).trans (List.Perm.swap k a l)
theorem W7 (k:Nat) (l:List Nat):(ins k l).length=l.length+1:=by rw[(sV k l).length_eq];rfl
theorem GG {k x:Nat} {l:List Nat}:x∈ins k l↔x=k∨x∈l:=by rw[(sV k l).mem_iff];simp
abbrev W8 (l:List Nat):Prop:=l.Pairwise (· ≤·)
theorem Ow (k:Nat):∀ l:List Nat,W8 l→W8 (ins k l)
 |[],_=>by unfold ins;simp
 |a :: l,h=>by
  obtain⟨h1,h2⟩:=List.pairwise_cons.1 h;unfold ins;split
  ·next hk=>
   refine List.pairwise_cons.2 ⟨fun x hx=>?_,h⟩;rcases aas.1 hx with rfl|hx
   (·exact hk);exact aaC hk (h1 x hx)
  next hk=>
  refine List.pairwise_cons.2 ⟨fun x hx=>?_,Ow k l h2⟩;rcases GG.1 hx with rfl|hx
  (·omega);exact h1 x hx
def meas (s:St):Nat:=s.2.length+s.1.countP (fun z=>decide (0<z))
theorem mU {l:List Int} {k:Nat} (h:k<l.length) (z:Int):(l.set k z).getD k 0=z:=by
 rw[aam,List.getElem?_set_self h];rfl
theorem Eg {l:List Int} {k:Nat} (h:k<l.length):(l.set k (l.getD k 0 - 1)).countP (fun z=>decide (0<z))+(if l.getD k 0=1 then 1 else 0)≤l.countP (fun z=>decide (0<z)):=by
 induction l generalizing k with
 |nil=>simp at h
 |cons a l ih=>
  cases k with
  |zero=>
   simp only[List.set_cons_zero,List.getD_cons_zero,List.countP_cons,decide_eq_true_eq];by_cases h1:a=1
   (·subst h1;simp);rw[if_neg h1];by_cases h2:0<a - 1
   (·rw[if_pos h2,if_pos af];omega);rw[if_neg h2];omega
  |succ k=>
   have:=ih (k:=k) aK;simp only[List.set_cons_succ,List.getD_cons_succ,List.countP_cons];omega
theorem wT (s:St) (k:Nat):(less s k).1.length=s.1.length:=by simp[less]
theorem P3 {s:St} {k:Nat} (h:k<s.1.length):meas (less s k)≤meas s:=by
 have:=Eg h;unfold meas less;simp only[mU h];by_cases h1:s.1.getD k 0=1
 (·rw[if_pos h1]at this;rw[if_pos af,W7];omega);rw[if_neg h1]at this;rw[if_neg af];omega
theorem yE (us:List Nat):∀ s:St,(gO us s).1.length=s.1.length:=by
 induction us with
 |nil=>intro s;rfl
 |cons k us ih=>intro s;exact(ih (less s k)).trans (wT s k)
theorem uZ {us:List Nat}:∀ {s:St},(∀ k∈us,k<s.1.length)→meas (gO us s)≤meas s:=by
 induction us with
 |nil=>intro s _;exact Nat.le_refl _
 |cons k us ih=>
  intro s h;exact aaC (ih (s:=less s k) fun j hj=>by rw[wT];exact h j (by simp[hj])) (P3 (h k ai))
def UOK (U:List (List Nat)) (n:Nat):Prop:=∀ i,∀ k∈U.getD i [],k<n
def W9 (g:List (List Nat)):Prop:=∀ i,∀ k∈g.getD i [],k<g.length
theorem sW {α:Type} (f:Nat→List α) (n i:Nat):((aav n).map f).getD i []=if i<n then f i else[]:=by
 rw[aam,List.getElem?_map];by_cases h:i<n
 (·rw[List.getElem?_range h,if_pos h];rfl);rw[List.getElem?_eq_none aK,if_neg h];rfl
theorem Tz {g:List (List Nat)}:UOK (nA g) g.length:=fun i k hk=>by
 unfold nA at hk;rw[sW]at hk;split at hk
 (·unfold iy at hk;exact List.mem_range.1 (List.mem_filter.1 hk).1);simp at hk
theorem C9 (g:List (List Nat)):(lens g).length=g.length:=by simp[lens]
theorem C_ (g:List (List Nat)):meas (lens g,gW g g.length)≤2*g.length:=by
 unfold meas;have h1:(gW g g.length).length≤g.length:=by
  have:=List.length_filter_le (fun i=>(g.getD i []).isEmpty) (aav g.length);rw[List.length_range]at this;exact this
 have h2:(lens g).countP (fun z=>decide (0<z))≤g.length:=by
  have:=List.countP_le_length (p:=fun z=>decide ((0:Int)<z)) (l:=lens g);rw[C9]at this;exact this
 simp only;omega
end Kn
namespace Go.Proofs.YtfppbjfnllhgcaaGreat
open Go Go.RowKit Bg Go.Proofs Sh Kb
section
theorem MF {fs:List cL} {op n:Int} {u nm:ByteArray} {l:List cw} {y:cw} (hy:y∈l) {j:Nat} (h:j∈fT fs y):j∈fT fs (.mk op n u nm l):=by
 unfold fT;exact List.mem_append_right _ (yw hy h)
theorem sX {fs:List cL} (N:Nat):∀ (x:cw),cE x≤N→dK (j7 fs) x=false→∀ j∈fT fs x,j<fs.length:=by
 induction N with
 |zero=>intro x hx;have:=dB x;omega
 |succ N ih2=>
  intro x hx hq j hj;cases x with
  |mk op m u nm l=>
   have vE:cE (.mk op m u nm l)=1+cT l:=aM;unfold fT at hj;rcases aar.1 hj with hj|hj
   ·by_cases h3:op=3
    (·rw[if_pos h3]at hj;rw[aau.1 hj];exact(t_ (known (jD hq) h3)).2);rw[if_neg h3]at hj;simp at hj
   obtain⟨y,hy,h5⟩:=CS hj;exact ih2 y aQ (kr hq hy) j h5
open Classical in
noncomputable def rU (fs:List cL):Nat→dh:=if h:∃ G,∃ r,wP fs G r then h.choose else fun _=>lu
theorem Bz {fs:List cL} (h:∃ G r,wP fs G r):∃ r,wP fs (rU fs) r:=by
 unfold rU;rw[dif_pos h];exact h.choose_spec
noncomputable def Lh (fs:List cL) (c:fD):Int×cw:=gy fs (rU fs) c.kY
noncomputable def Bc (s:cK):Option (List cw):=if fV s=true∧gU s.funcs=0∧∀ c∈s.cells,(Lh s.funcs c).1=0 then some (s.cells.map fun c=>(Lh s.funcs c).2)else none
def isName (nm:ByteArray) (y:cw):Bool:=y.op==1&&y.name==nm
def Da (cells:List fD) (x:cw):List Nat:=(aav cells.length).filter fun k=>match cells[k]? with|some c=>dK (isName c.name) x|none=>false
noncomputable def jU (s:cK):Option (List (List Nat)):=(Bc s).map fun l=>l.map (Da s.cells)
noncomputable def jG (s:cK):Int×List Nat:=match jU s with
 |none=>(1,[])
 |some g=>match Kn.jF g with
  |none=>(23,[])
  |some l=>(0,l)
theorem row_ok {cells:List fD} {x:cw}:∀ k∈Da cells x,k<cells.length:=fun k hk=>List.mem_range.1 (List.mem_filter.1 hk).1
end
theorem Ox {op n:Int} {u nm:ByteArray} {l:List cw}:lZ (.mk op n u nm l)↔Ms u∧Ms nm∧∀ y∈l,lZ y:=by
 have hl:∀ l:List cw,Vv l↔∀ y∈l,lZ y:=by
  intro l;induction l with
  |nil=>unfold Vv;simp
  |cons a l ih=>unfold Vv;rw[ih];simp
 (conv=>lhs;unfold lZ);rw[hl]
theorem TC:Ms ⟨#[]⟩:=by unfold Ms;show 0≤maxLen;omega
theorem wU:lZ lu.x:=Ox.2 ⟨TC,TC,fun y hy=>by simp at hy⟩
theorem MG {op n:Int} {un nm:ByteArray} (h1:Ms un) (h2:Ms nm):∀ (l:List dh) (a b:Int) (acc:List cw),(∀ y∈acc,lZ y)→(∀ y∈l,lZ y.x)→lZ (xO op n un nm a b acc l).x
 |[],a,b,acc,ha,_=>Ox.2 ⟨h1,h2,ha⟩
 |y :: l,a,b,acc,ha,hy=>by
  unfold xO;split
  (·exact wU);exact MG h1 h2 l _ _ _ (fun z hz=>by
   rcases aar.1 hz with hz|hz
   (·exact ha z hz);rw[aau.1 hz];exact hy y ai) fun z hz=>hy z (by simp[hz])
theorem W_ {ps:List eX} {args:List dh} (ha:∀ y∈args,lZ y.x) (N:Nat):∀ x:cw,cE x≤N→lZ x→lZ (lF ps args x).x:=by
 induction N with
 |zero=>intro x hx;have:=dB x;omega
 |succ N ih=>
  intro x hx hs;cases x with
  |mk op n u nm l=>
   have hn:cE (.mk op n u nm l)=1+cT l:=aM;obtain⟨h1,h2,h3⟩:=Ox.1 hs;by_cases h:op=1
   ·subst h;rw[ud];by_cases hj:(nh ps nm).toNat<args.length
    (·rw[aam,List.getElem?_eq_getElem hj];exact ha _ (aan hj));rw[aam,List.getElem?_eq_none af];exact wU
   rw[Bu h];have h4:=CZ (Q:=fun y=>lZ y.x) (ps:=ps) (args:=args) l [] (fun y hy=>ih y aQ (h3 y hy)) (fun z hz=>by simp at hz);cases hp:sS ps args l []with
   |inl z=>rw[hp]at h4;exact h4
   |inr r=>rw[hp]at h4;exact MG h1 h2 r 1 1 [] (fun y hy=>by simp at hy) h4
theorem GH {G:Nat→dh} {fs:List cL} (N:Nat):∀ x:cw,cE x≤N→lZ x→(∀ j∈fT fs x,lZ (G j).x)→lZ (eZ G fs x).x:=by
 induction N with
 |zero=>intro x hx;have:=dB x;omega
 |succ N ih=>
  intro x hx hs hG;cases x with
  |mk op n u nm l=>
   have hn:cE (.mk op n u nm l)=1+cT l:=aM;obtain⟨h1,h2,h3⟩:=Ox.1 hs;have hl:∀ z∈j9 G fs l,lZ z.x:=fun z hz=>by
    rw[jS]at hz;obtain⟨y,hy,rfl⟩:=aat.1 hz;exact ih y aQ (h3 y hy) fun j hj=>hG j (MF hy hj)
   unfold eZ;by_cases ho:op=3
   ·rw[if_pos ho];have hb:=hG (findF fs nm).toNat (by unfold fT;rw[if_pos ho];simp);split
    (·exact wU);split
    (·exact W_ hl _ _ aac hb);exact wU
   rw[if_neg ho];exact MG h1 h2 _ 1 1 [] (fun y hy=>by simp at hy) hl
theorem TD {fs:List cL} {G:Nat→dh} {r:Nat→Nat} (hX:wP fs G r) (hs:∀ f∈fs,lZ f.body) (n:Nat):∀ i,i<fs.length→r i<n→lZ (G i).x:=by
 induction n with
 |zero=>intro i _ h;omega
 |succ n ih=>
  intro i hi hn;have e:=List.getElem?_eq_getElem hi;have hm:=aan hi;rw[hX.fix _ _ e];exact GH _ _ aac (hs _ hm) fun j hj=>ih j (sX _ _ aac (hX.one _ hm).1 j hj) (by have:=hX.PI i _ e j hj;omega)
theorem Fa {s:cK} {l:List cw} (hz:gj s) (h:Bc s=some l):fV s=true∧l.length=s.cells.length∧∀ x∈l,lZ x∧cE x≤200:=by
 unfold Bc at h;split at h
 ·next hc=>
  obtain⟨hr,hk,ha⟩:=hc;injection h with h;subst h;have hR:=iC hr;have hF:=wS hr hz;have D9:s.funcs.length≤(uses s).length:=bK;have hlen:=hR.len;obtain⟨r,hX⟩:=Bz (ME hF af hk);refine⟨hr,by simp,fun x hx=>?_⟩;obtain⟨c,hc,rfl⟩:=aat.1 hx;have h0:=ha c hc;(have wW:fB c.kY=true:=by have:=(hR.cells c hc).2;unfold nR at this;simp only[aag]at this;exact this.2);have hsf:∀ f∈s.funcs,lZ f.body:=fun f hf=>(gN ((hF.one f hf).1.body)).1;unfold Lh gy at h0 ⊢;cases hu:dK (j7 s.funcs) c.kY with
  |true=>rw[hu]at h0;simp at h0
  |false=>
   rw[hu]at h0;cases hv:dK (j8 s.funcs) c.kY with
   |true=>rw[hv]at h0;simp at h0
   |false=>
    rw[hv]at h0;cases hf:(eZ (rU s.funcs) s.funcs c.kY).full with
    |true=>rw[hf]at h0;simp at h0
    |false=>
     simp only[Bool.false_eq_true,if_false];refine⟨GH _ _ aac (gN wW).1 fun j hj=>TD hX hsf _ j (sX _ _ aac hu j hj) (aaE _),?_⟩;have h1:=wM (G:=rU s.funcs) (fs:=s.funcs) c.kY hf;have h2:=ue (G:=rU s.funcs) (fs:=s.funcs) c.kY;unfold pX at h2;omega
 cases h
def kM (l:List fD):Nat→ByteArray→Option Nat
 |0,_=>none
 |k+1,nm=>match l[k]? with
  |some c=>if nm=c.name then some k else kM l k nm
  |none=>kM l k nm
theorem wX {l:List fD} {nm:ByteArray} {i:Nat}:∀ k,kM l k nm=some i→i<k∧∃ c,l[i]? =some c∧c.name=nm
 |0,h=>by cases h
 |k+1,h=>by
  unfold kM at h;split at h
  ·next c hc=>
   split at h
   (·(next e=>injection h with h;subst h;exact⟨by omega,c,hc,e.symm⟩));obtain⟨h1,h2⟩:=wX k h;exact⟨by omega,h2⟩
  obtain⟨h1,h2⟩:=wX k h;exact⟨by omega,h2⟩
theorem rB {l:List fD} (hn:(l.map (·.name)).Nodup) {i:Nat} (hi:i<l.length):∀ k,i<k→kM l k l[i].name=some i
 |0,h=>by omega
 |k+1,h=>by
  unfold kM;by_cases hk:k<l.length
  ·rw[List.getElem?_eq_getElem hk];show(if l[i].name=l[k].name then some k else kM l k l[i].name)=some i;by_cases e:i=k
   (·subst e;rw[if_pos rfl]);have hne:l[i].name≠l[k].name:=by
    have:=List.pairwise_iff_getElem.1 hn i k aX (by simpa using hk) af;simpa using this
   rw[if_neg hne];exact rB hn hi k af
  rw[List.getElem?_eq_none af];exact rB hn hi k af
theorem Ak {s:cK} (h:fV s=true):(s.cells.map (·.name)).Nodup:=by
 have hn:=(sJ h).1;have e:(uses s).map (·.1)=(gP s).map (·.1)++(s.tables.map (·.name)++s.funcs.map (·.name))++s.cells.map (·.name):=(by simp[uses,iA,Function.comp_def]);rw[e]at hn;exact(List.nodup_append.1 hn).2.1
end Go.Proofs.YtfppbjfnllhgcaaGreat
