/- Parts of the proof, packed (Read to CallJ); each theorem bears its own conditions. -/
import Derived.Test.YtfppbjfnllhgcaaGreatPn04
set_option linter.unusedVariables false
set_option linter.unusedSimpArgs false
set_option maxRecDepth 100000
set_option maxHeartbeats 8000000
open Go.Proofs.Tryz
open Go.Lib renaming hid → aa
open Nat renaming le_refl→aaB,lt_of_lt_of_le→aaD,le_trans→aaC,zero_le→aaG
open Go.World renaming size_alloc→aaI
open List renaming getElem_mem→aan,length_append→aao,getD_eq_getElem?_getD→aam,mem_cons→aas,mem_append→aar,drop_eq_getElem_cons→aah,replicate→aaw,range→aav
open Go.RowKit.Below renaming refl→aaf,heap_setCell→aae
open Array renaming replicate→aad
theorem bg {p:Prop} (h:p:=by simp[go_sem,qz]):p:=h
theorem au {p:Prop} (h:p:=by intro d v c a w h;cases d<;>exact h):p:=h
theorem bF {p:Prop} (h:p:=by simp[World.setCell]):p:=h
theorem bE {p:Prop} (h:p:=by rw[← hW1];simp):p:=h
theorem aJ {p:Prop} (h:p:=by rw[World.size_alloc];omega):p:=h
theorem aN {p:Prop} (h:p:=by have:=dH l y hy;omega):p:=h
namespace Go.Proofs.YtfppbjfnllhgcaaGreat
section
open Go Go.RowKit Bg Go.Proofs Sh Kb
def lK:List iQ→eG→eG
 |[],a=>a
 |x :: l,a=>lK l (oA a (mD x.word) x.exp)
theorem Cz:∀ (l:List iQ) (x:iQ) (a:eG),lK (l++[x]) a=oA (lK l a) (mD x.word) x.exp
 |[],x,a=>rfl
 |y :: l,x,a=>Cz l x _
theorem wD:∀ (l m:List iQ) (a:List Int),r6 (l++m) a=match r6 l a with|none=>none|some b=>r6 m b
 |[],m,a=>rfl
 |x :: l,m,a=>by
  simp only[List.cons_append,r6];cases h:iI x.word with
  |none=>rfl
  |some y=>
   obtain⟨k,e⟩:=y;exact wD l m _
theorem ux {s:Bytes} {b:Nat} {e:Int} (h:dJ s=some (b,e)):b<6∧(e=1∨e=3):=by
 have hm:dJ s∈[some ((0:Nat),(1:Int)),some (1,1),some (1,3),some (2,1),some (3,1),some (4,1),some (5,1),none]:=by
  unfold dJ;(repeat (refine NS ak ?_));decide
 rw[h]at hm;simp only[aas,List.not_mem_nil,or_false,Option.some.injEq,Prod.mk.injEq,reduceCtorEq]at hm;omega
theorem Gb {s:Bytes} {b:Nat} {e:Int} (h:iI s=some (b,e)):b<6∧(e=1∨e=3):=by
 unfold iI at h;cases hs:dJ s with
 |some x=>
  rw[hs]at h;exact ux (hs.trans h)
 |none=>
  rw[hs]at h;cases s with
  |nil=>cases h
  |cons c r=>
   simp only[]at h;cases hr:dJ r with
   |none=>rw[hr]at h;cases h
   |some x=>
    rw[hr]at h;simp only[]at h;split at h
    (·exact ux (hr.trans h));cases h
theorem Gc {s:Bytes} (h:(iI s).isSome=true):dK (mD s)=true∧(mD s).p.sign=1:=by
 unfold mD;cases hs:dJ s with
 |some x=>
  have:=sI (s:=s) (by rw[hs];rfl);unfold jb at this;rw[hs]at this;exact this
 |none=>
  simp only[Option.isSome_none,Bool.false_eq_true,if_false,h,if_true];cases s with
  |nil=>unfold iI at h;rw[hs]at h;cases h
  |cons c r=>
   rw[Cr hs]at h;split at h
   ·next hc=>
    simp only[Bool.and_eq_true]at hc;have h1:=sI hc.1;unfold jb at h1;rw[if_pos hc.1]at h1;have hp:=IV hc.2.1;exact⟨Cl h1.1 (tR hp.2.1),IM h1.1 (tR hp.2.1) h1.2 (NP hp.1.1 hp.2.1)⟩
   cases h
theorem Wp {s:Bytes} {f0 f1 f2 f3 f4 f5:Int} (hd:Cq s=[f0,f1,f2,f3,f4,f5]) (h:(iI s).isSome=true) (d0 d1 d2 d3 d4 d5 z:Int):r6 [⟨s,z⟩] [d0,d1,d2,d3,d4,d5]=some [d0+f0*z,d1+f1*z,d2+f2*z,d3+f3*z,d4+f4*z,d5+f5*z]∧(f0=0∨f0=1∨f0=3)∧(f1=0∨f1=1∨f1=3)∧(f2=0∨f2=1∨f2=3)∧(f3=0∨f3=1∨f3=3)∧(f4=0∨f4=1∨f4=3)∧(f5=0∨f5=1∨f5=3):=by
 cases hu:iI s with
 |none=>rw[hu]at h;cases h
 |some x=>
  obtain⟨b,e⟩:=x;obtain⟨hb,he⟩:=Gb hu;unfold Cq at hd;rw[hu]at hd;simp only[r6,hu];have hc:b=0∨b=1∨b=2∨b=3∨b=4∨b=5:=af;rcases hc with rfl|rfl|rfl|rfl|rfl|rfl<;>
   (simp only[eH,List.set_cons_zero,List.set_cons_succ,List.cons.injEq,and_true]at hd
    obtain⟨rfl,rfl,rfl,rfl,rfl,rfl⟩:=hd
    refine⟨?_,?_⟩
    ·
     simp[Rq]
    ·
     omega)
theorem EG {f z:Int} (hf:f=0∨f=1∨f=3) (hz:-9≤z∧z≤9):-27≤f*z∧f*z≤27:=by
 rcases hf with rfl|rfl|rfl<;>omega
def EH (s:Bytes):eG:=match gC s with|some l=>lK l (qm 1)|none=>ze
def SJ (s:ByteArray) (w:World) (e:Ending) (w':World):Prop:=
 ∃ d0 d1 d2 d3 d4 d5 s' A n c t B m cc,e= .returned (.tuple #[.agg #[bU d0,bU d1,bU d2,bU d3,bU d4,bU d5,bU s',bW A n c,bU t,bW B m cc],bU (jK s).1])∧(jK s).2=[d0,d1,d2,d3,d4,d5]∧
  ((jK s).1=0→dN 4000 w' s' A n t B m (EH s.data.toList)∧dK (EH s.data.toList)=true∧(EH s.data.toList).p.sign=1)∧Below w w w'
def Hq (g:Nat) (A:Option Addr) (b:iO):Prop:=b.dg≠[]→∀ b' o,A=bY b' o→b'≠g
def ApF (g:Nat) (A B:Option Addr) (f:eG):Prop:=Hq g A f.p∧Hq g B f.q
theorem Hq.of_lt {M n g:Nat} {w:World} {s:Int} {A:Option Addr} {b:iO} (h:dA M w s A n b) (hg:w.heap.size≤g):Hq g A b:=fun hn b' o e=>by
 obtain⟨b2,o2,e2,hlt,_⟩:=h.2.2.2 (by simpa using hn);rw[e2]at e;injection e with e;injection e with e;omega
theorem Hq.nh {g B:Nat} {A:Option Addr} {b:iO} (h:dS B A) (hg:g<B):Hq g A b:=fun _ b' o e=>by have:=h b' o e;omega
theorem dA.gF {M n g i:Nat} {w:World} {s:Int} {A:Option Addr} {b:iO} (h:dA M w s A n b) (ha:Hq g A b) (u:Value):dA M (w.setCell (bY g i) u) s A n b:=
 ⟨h.1,h.2.1,h.2.2.1,fun hn=>by
  obtain⟨b2,o2,e2,hlt,hc⟩:=h.2.2.2 hn;have hne:=ha (by simpa using hn) b2 o2 e2;exact⟨b2,o2,e2,by simpa [World.setCell]using hlt,fun j v hv=>(World.cell?_setCell_other w (bY g i) (bY b2 (o2+j)) u (fun e=>hne (by injection e with e;exact e.symm))).trans (hc j v hv)⟩⟩
theorem dA.wE {M n g:Nat} {w w':World} {s:Int} {A:Option Addr} {b:iO} (h:dA M w s A n b) (ha:Hq g A b) (hg:w.grownBy w' (some g)):dA M w' s A n b:=
 ⟨h.1,h.2.1,h.2.2.1,fun hn=>by
  obtain⟨b2,o2,e2,hlt,hc⟩:=h.2.2.2 hn;have hne:=ha (by simpa using hn) b2 o2 e2;exact⟨b2,o2,e2,aaD hlt hg.size,fun j v hv=>(World.cell?_of_block (a:=bY b2 (o2+j)) (hg.block b2 hlt (fun e=>hne bJ))).trans (hc j v hv)⟩⟩
def LR (xs:List iQ) (w1 wr:World) (g0 g k:Nat):Prop:=
 ∃ d0 d1 d2 d3 d4 d5 sg A n c t B m cc,cN wr g 165 [bU d0,bU d1,bU d2,bU d3,bU d4,bU d5,bU sg,bW A n c,bU t,bW B m cc]∧r6 (xs.take k) eH=some [d0,d1,d2,d3,d4,d5]∧dN (4+72*k) wr sg A n t B m (lK (xs.take k) (qm 1))∧
  (dK (lK (xs.take k) (qm 1))=true∧(lK (xs.take k) (qm 1)).p.sign=1)∧(ApF g A B (lK (xs.take k) (qm 1))∧ApF g0 A B (lK (xs.take k) (qm 1)))∧Below w1 w1 wr∧
  ((-27*(k:Int)≤d0∧d0≤27*(k:Int))∧(-27*(k:Int)≤d1∧d1≤27*(k:Int))∧(-27*(k:Int)≤d2∧d2≤27*(k:Int))∧(-27*(k:Int)≤d3∧d3≤27*(k:Int))∧(-27*(k:Int)≤d4∧d4≤27*(k:Int))∧(-27*(k:Int)≤d5∧d5≤27*(k:Int)))∧w1.heap.size≤g
def zJ (wo wi:World) (g k:Nat) (l m:List Int) (fr:List Value):Prop:=cN wi g 165 (((l.take k)++(m.drop k)).map iv++fr)∧wo.grownBy wi (some g)
theorem CB {w w1:World} (h:Below w w w1):Below w w ((((((((((w1.setCell (bY w 0) (bU 0)).setCell (bY w 1) (bU 0)).setCell (bY w 2) (bU 0)).setCell (bY w 3) (bU 0)).setCell (bY w 4) (bU 0)).setCell (bY w 5) (bU 0)).setCell (bY w 6) (bU 0)).setCell (bY w 7) cD).setCell (bY w 8) (bU 0)).setCell (bY w 9) cD):=
 ((((((((((h.setCell (p:=bY w 0) aac (bU 0)).setCell (p:=bY w 1) aac (bU 0)).setCell (p:=bY w 2) aac (bU 0)).setCell (p:=bY w 3) aac (bU 0)).setCell (p:=bY w 4) aac (bU 0)).setCell (p:=bY w 5) aac (bU 0)).setCell (p:=bY w 6) aac (bU 0)).setCell (p:=bY w 7) aac cD).setCell (p:=bY w 8) aac (bU 0)).setCell (p:=bY w 9) aac cD)
theorem nV (s:ByteArray) (w:World) (hs:s.size≤maxLen):Calls prog 84 #[bV s] w (SJ s w):=by
 have Q3:=aa (fun W=>LO s W hs);have HIn:=aa (fun W=>Sm 1 af W);have HU:Hid (jK s=match gC s.data.toList with
  |none=>(12,eH)
  |some l=>match r6 l eH with
   |none=>(11,eH)
   |some d=>if dL d then(0,d)else(3,eH)):=rfl
 generalize hib:gC s.data.toList=ib at HU;go_enter func84,ntmps84;go_wp2_with fail;refine(Q3.o _).mono ?_;rintro e w1 ⟨Al,cl,xs,rfl,qU,hxs,hok,hxl,hb1⟩;have gW:=aa (show Below w w w1 from((aaf _ w).alloc aac _).trans (hb1.mono ai));obtain⟨hc1,jy⟩:=iP hb1;have Sg:=hb1.size;simp only[aaI]at Sg;have z0:w.heap.size<w1:=af;have HSQ:=aa qU;have HXS:=aa hxs;have NV:=aa hok;have HZB:=aa (show cN w1 w 165 [bU 0,bU 0,bU 0,bU 0,bU 0,bU 0,bU 0,cD,bU 0,cD]from cN.bZ (heap_alloc_new w _) hb1 ai);clear hb1 Sg qU hxs hok;rw[hib]at HXS ⊢;have HRD:=aa (fun(l:List iQ) (hl:ib=some l)=>show EH s.data.toList=lK l (qm 1)from by unfold EH;rw[hib,hl]);clear hib Q3;cases ib with
 |none=>
  have NX:=aa (show jK s=(12,eH)from HU.o);go_wp2_with fail;have qz:=HZB.o.cell;exact bodyPost_ret (v:= .tuple #[.agg #[bU 0,bU 0,bU 0,bU 0,bU 0,bU 0,bU 0,cD,bU 0,cD],bU 12]) (by simp[results,results84,go_sem,qz]) rfl ⟨0,0,0,0,0,0,0,none,0,0,0,none,0,0,by rw[NX.o],by rw[NX.o];rfl,fun h=>(by rw[NX.o]at h;exact absurd h ak),CB gW.o⟩
 |some l=>
  have hxl2:=HXS.o l rfl;subst hxl2;have IX:=gW.o.size;go_wp2_with fail;refine(HIn.o _).mono ?_;rintro e w2 ⟨sg,A,n,c,t,B,m,cc,rfl,Wq,hF2,hb2⟩;have dI:=aa (hb2);obtain⟨hc2,hf2⟩:=iP hb2;have Vp:=hb2.size;have y0:w.heap.size<w2:=af;have rS:=aa Wq;have IY:=aa hF2;have ZC:=hb2.size;clear hb2 Vp Wq hF2;go_wp2_with fail;have ZE:=aa (show LR xs w1 (w2.alloc (.cells #[bU 0,bU 0,bU 0,bU 0,bU 0,bU 0,bU sg,bW A n c,bU t,bW B m cc] 165)) w w2 0 from⟨0,0,0,0,0,0,sg,A,n,c,t,B,m,cc,je rfl,rfl,⟨(rS.o.1.alloc _),(rS.o.2.alloc _)⟩,⟨LI 1,Sk af⟩,⟨⟨Hq.of_lt rS.o.1 aac,Hq.of_lt rS.o.2 aac⟩,⟨Hq.nh IY.o.1 z0,Hq.nh IY.o.2 z0⟩⟩,dI.o.alloc ZC _,by omega,ZC⟩);generalize (w2.alloc (.cells #[bU 0,bU 0,bU 0,bU 0,bU 0,bU 0,bU sg,bW A n c,bU t,bW B m cc] 165))=W2 at ZE ⊢;generalize w2.heap.size=g at ZE ZC ⊢;clear hc2 hf2 hc1 jy y0 IY rS dI;go_loopw [25] (fun v wr=>∃ k:Nat,k≤xs.length∧v=bU (k:Int)∧Hid (LR xs w1 wr w g k)) (fun v _=>xs.length - (intOf v).toNat);(case atStart=>exact⟨0,aaG _,rfl,ZE.o⟩);clear ZE;obtain⟨k,hk,rfl,HRA⟩:=hrel;obtain⟨d0,d1,d2,d3,d4,d5,sg,A,n,c,t,B,m,cc,hblk,hdim,hfr,hrt,hap,fL,hbd,hg1⟩:=HRA.o;have hgr:=hblk.lt;have hwr:=fL.size;have VT:=aa hblk;have HDM:=aa hdim;have Sc:=aa hfr;have HRT:=aa hrt;have HAP:=aa hap;have sj:=aa fL;have HZR:=aa (HZB.o.bZ fL z0);have a0:b_ wr g 0 (bU d0):=hblk.cell 0;have a1:b_ wr g 1 (bU d1):=hblk.cell 1;have a2:b_ wr g 2 (bU d2):=hblk.cell 2;have a3:b_ wr g 3 (bU d3):=hblk.cell 3;have a4:b_ wr g 4 (bU d4):=hblk.cell 4;have a5:b_ wr g 5 (bU d5):=hblk.cell 5;have a6:b_ wr g 6 (bU sg):=hblk.cell 6;have a7:b_ wr g 7 (bW A n c):=hblk.cell 7;have a8:b_ wr g 8 (bU t):=hblk.cell 8;have a9:b_ wr g 9 (bW B m cc):=hblk.cell 9;have a0f:wr.frozen? (bY g 0)=false:=hblk.frozen 0;have a1f:wr.frozen? (bY g 1)=false:=hblk.frozen 1;have a2f:wr.frozen? (bY g 2)=false:=hblk.frozen 2;have a3f:wr.frozen? (bY g 3)=false:=hblk.frozen 3;have a4f:wr.frozen? (bY g 4)=false:=hblk.frozen 4;have a5f:wr.frozen? (bY g 5)=false:=hblk.frozen 5;have a6f:wr.frozen? (bY g 6)=false:=hblk.frozen 6;have a7f:wr.frozen? (bY g 7)=false:=hblk.frozen 7;have a8f:wr.frozen? (bY g 8)=false:=hblk.frozen 8;have a9f:wr.frozen? (bY g 9)=false:=hblk.frozen 9;clear hblk hdim hfr hrt hap fL HRA;by_cases hlt:k<xs.length
  ·obtain⟨bi,oi,cs,rfl,_,Pe,ey,cT⟩:=(HSQ.o.bZ sj.o).get hlt;have hx:xs[k]? =some xs[k]:=List.getElem?_eq_getElem hlt;have hox:=NV.o xs[k] (aan hlt);generalize xs[k]=x at hx ey hox;have hcs:cs=[bV ⟨x.word.toArray⟩,bU x.exp]:=ey;subst hcs;have b0:b_ wr bi (oi+k*2) (bV ⟨x.word.toArray⟩):=cT 0 _ rfl;have b1:b_ wr bi (oi+k*2+1) (bU x.exp):=cT 1 _ rfl;have j3:=aa (show xs.take (k+1)=xs.take k++[x] by rw[List.take_add_one,hx];rfl);obtain⟨wd,hwd⟩:∃ wd:ByteArray,wd=⟨x.word.toArray⟩:=⟨_,rfl⟩;have hwl:wd.data.toList=x.word:=(by rw[hwd]);have hwp:0<wd.size:=(by rw[← eO,hwl];exact List.length_pos_iff.2 hox.1);rw[← hwd]at b0;have hword:=fun W=>O_ wd W hwp;rw[hwl]at hword;have HWD:=aa hword;obtain⟨z,hz⟩:∃ z,z=x.exp:=⟨_,rfl⟩;rw[← hz]at b1;have hzb:(-9≤z∧z≤9)∧z≠0:=(by rw[hz];exact hox.2);have HZX:=aa hz;clear cT ey hx hox hwd hwl hwp hz hword;go_wp2_with fail;refine(HWD.o _).mono ?_;rintro e w6 ⟨f0,f1,f2,f3,f4,f5,s6,A6,n6,c6,t6,B6,m6,e6,rfl,hd,NJ,Vr,eM⟩;have eo:=aa (show Below wr wr w6 from((aaf _ wr).alloc aac _).trans (eM.mono ai));obtain⟨Zx,Ct⟩:=iP eM;have O7:=eM.size;simp only[aaI]at O7;have x0:w.heap.size<w6:=af;have xg:g<w6.heap.size:=af;have xx:wr.heap.size<w6:=af;have X9:=aa NJ;have HF6:=aa (show dS (wr+1) A6∧dS (wr+1) B6 by simpa using Vr);have Zw:=aa hd;have HXB:=aa (show cN w6 wr 228 [bV wd,bU z]from cN.bZ (heap_alloc_new wr _) eM ai);clear eM O7 NJ Vr hd;have HGB:=aa (VT.o.bZ eo.o hgr);cases Ws:(iI x.word).isSome with
   |false=>
    have NX:=aa (show jK s=(11,eH) by
     rw[HU.o];have e:xs=(xs.take k++[x])++xs.drop (k+1):=(by rw[← j3.o];exact(List.take_append_drop _ _).symm);have h2:r6 xs eH=none:=by
      rw[e,wD,wD,HDM.o];(have hn:iI x.word=none:=by cases hh:iI x.word with|none=>rfl|some y=>rw[hh]at Ws;cases Ws);simp only[r6,hn]
     simp only[h2])
    clear Ws;have HBZ:=aa (HZR.o.bZ eo.o af);have qz:=HBZ.o.cell;have qzf:=HBZ.o.frozen;clear Zx Ct;go_wp2_with fail;have g0:(((((((((((w6.setCell (bY w 0) (bU 0)).setCell (bY w 1) (bU 0)).setCell (bY w 2) (bU 0)).setCell (bY w 3) (bU 0)).setCell (bY w 4) (bU 0)).setCell (bY w 5) (bU 0)).setCell (bY w 6) (bU 0)).setCell (bY w 7) cD).setCell (bY w 8) (bU 0)).setCell (bY w 9) cD).alloc (.cells #[bU f0,bU f1,bU f2,bU f3,bU f4,bU f5,bU s6,bW A6 n6 c6,bU t6,bW B6 m6 e6] 165)).cell? (bY w 0)=some (bU 0):=(vE _ _ _ _ aD).trans bg;have g1:(((((((((((w6.setCell (bY w 0) (bU 0)).setCell (bY w 1) (bU 0)).setCell (bY w 2) (bU 0)).setCell (bY w 3) (bU 0)).setCell (bY w 4) (bU 0)).setCell (bY w 5) (bU 0)).setCell (bY w 6) (bU 0)).setCell (bY w 7) cD).setCell (bY w 8) (bU 0)).setCell (bY w 9) cD).alloc (.cells #[bU f0,bU f1,bU f2,bU f3,bU f4,bU f5,bU s6,bW A6 n6 c6,bU t6,bW B6 m6 e6] 165)).cell? (bY w 1)=some (bU 0):=(vE _ _ _ _ aD).trans bg;have g2:(((((((((((w6.setCell (bY w 0) (bU 0)).setCell (bY w 1) (bU 0)).setCell (bY w 2) (bU 0)).setCell (bY w 3) (bU 0)).setCell (bY w 4) (bU 0)).setCell (bY w 5) (bU 0)).setCell (bY w 6) (bU 0)).setCell (bY w 7) cD).setCell (bY w 8) (bU 0)).setCell (bY w 9) cD).alloc (.cells #[bU f0,bU f1,bU f2,bU f3,bU f4,bU f5,bU s6,bW A6 n6 c6,bU t6,bW B6 m6 e6] 165)).cell? (bY w 2)=some (bU 0):=(vE _ _ _ _ aD).trans bg;have g3:(((((((((((w6.setCell (bY w 0) (bU 0)).setCell (bY w 1) (bU 0)).setCell (bY w 2) (bU 0)).setCell (bY w 3) (bU 0)).setCell (bY w 4) (bU 0)).setCell (bY w 5) (bU 0)).setCell (bY w 6) (bU 0)).setCell (bY w 7) cD).setCell (bY w 8) (bU 0)).setCell (bY w 9) cD).alloc (.cells #[bU f0,bU f1,bU f2,bU f3,bU f4,bU f5,bU s6,bW A6 n6 c6,bU t6,bW B6 m6 e6] 165)).cell? (bY w 3)=some (bU 0):=(vE _ _ _ _ aD).trans bg;have g4:(((((((((((w6.setCell (bY w 0) (bU 0)).setCell (bY w 1) (bU 0)).setCell (bY w 2) (bU 0)).setCell (bY w 3) (bU 0)).setCell (bY w 4) (bU 0)).setCell (bY w 5) (bU 0)).setCell (bY w 6) (bU 0)).setCell (bY w 7) cD).setCell (bY w 8) (bU 0)).setCell (bY w 9) cD).alloc (.cells #[bU f0,bU f1,bU f2,bU f3,bU f4,bU f5,bU s6,bW A6 n6 c6,bU t6,bW B6 m6 e6] 165)).cell? (bY w 4)=some (bU 0):=(vE _ _ _ _ aD).trans bg;have g5:(((((((((((w6.setCell (bY w 0) (bU 0)).setCell (bY w 1) (bU 0)).setCell (bY w 2) (bU 0)).setCell (bY w 3) (bU 0)).setCell (bY w 4) (bU 0)).setCell (bY w 5) (bU 0)).setCell (bY w 6) (bU 0)).setCell (bY w 7) cD).setCell (bY w 8) (bU 0)).setCell (bY w 9) cD).alloc (.cells #[bU f0,bU f1,bU f2,bU f3,bU f4,bU f5,bU s6,bW A6 n6 c6,bU t6,bW B6 m6 e6] 165)).cell? (bY w 5)=some (bU 0):=(vE _ _ _ _ aD).trans bg;have g6:(((((((((((w6.setCell (bY w 0) (bU 0)).setCell (bY w 1) (bU 0)).setCell (bY w 2) (bU 0)).setCell (bY w 3) (bU 0)).setCell (bY w 4) (bU 0)).setCell (bY w 5) (bU 0)).setCell (bY w 6) (bU 0)).setCell (bY w 7) cD).setCell (bY w 8) (bU 0)).setCell (bY w 9) cD).alloc (.cells #[bU f0,bU f1,bU f2,bU f3,bU f4,bU f5,bU s6,bW A6 n6 c6,bU t6,bW B6 m6 e6] 165)).cell? (bY w 6)=some (bU 0):=(vE _ _ _ _ aD).trans bg;have g7:(((((((((((w6.setCell (bY w 0) (bU 0)).setCell (bY w 1) (bU 0)).setCell (bY w 2) (bU 0)).setCell (bY w 3) (bU 0)).setCell (bY w 4) (bU 0)).setCell (bY w 5) (bU 0)).setCell (bY w 6) (bU 0)).setCell (bY w 7) cD).setCell (bY w 8) (bU 0)).setCell (bY w 9) cD).alloc (.cells #[bU f0,bU f1,bU f2,bU f3,bU f4,bU f5,bU s6,bW A6 n6 c6,bU t6,bW B6 m6 e6] 165)).cell? (bY w 7)=some (bW none 0 0):=(vE _ _ _ _ aD).trans bg;have g8:(((((((((((w6.setCell (bY w 0) (bU 0)).setCell (bY w 1) (bU 0)).setCell (bY w 2) (bU 0)).setCell (bY w 3) (bU 0)).setCell (bY w 4) (bU 0)).setCell (bY w 5) (bU 0)).setCell (bY w 6) (bU 0)).setCell (bY w 7) cD).setCell (bY w 8) (bU 0)).setCell (bY w 9) cD).alloc (.cells #[bU f0,bU f1,bU f2,bU f3,bU f4,bU f5,bU s6,bW A6 n6 c6,bU t6,bW B6 m6 e6] 165)).cell? (bY w 8)=some (bU 0):=(vE _ _ _ _ aD).trans bg;have g9:(((((((((((w6.setCell (bY w 0) (bU 0)).setCell (bY w 1) (bU 0)).setCell (bY w 2) (bU 0)).setCell (bY w 3) (bU 0)).setCell (bY w 4) (bU 0)).setCell (bY w 5) (bU 0)).setCell (bY w 6) (bU 0)).setCell (bY w 7) cD).setCell (bY w 8) (bU 0)).setCell (bY w 9) cD).alloc (.cells #[bU f0,bU f1,bU f2,bU f3,bU f4,bU f5,bU s6,bW A6 n6 c6,bU t6,bW B6 m6 e6] 165)).cell? (bY w 9)=some (bW none 0 0):=(vE _ _ _ _ aD).trans bg;exact bodyPost_ret (v:= .tuple #[.agg #[bU 0,bU 0,bU 0,bU 0,bU 0,bU 0,bU 0,cD,bU 0,cD],bU 11]) (by simp[results,results84,go_sem,g0,g1,g2,g3,g4,g5,g6,g7,g8,g9]) rfl ⟨0,0,0,0,0,0,0,none,0,0,0,none,0,0,by rw[NX.o],by rw[NX.o];rfl,fun h=>(by rw[NX.o]at h;exact absurd h ak),(CB ((gW.o.trans (sj.o.mono IX)).trans (eo.o.mono (aaC IX hwr)))).alloc aD _⟩
   |true=>
    have Ya:=Wp Zw.o Ws d0 d1 d2 d3 d4 d5 z;have HDO:=aa Ya.1;have hwf:=Gc Ws;have rT:=aa hwf;clear Ws hwf;have m0:=EG Ya.2.1 hzb.1;have m1:=EG Ya.2.2.1 hzb.1;have m2:=EG Ya.2.2.2.1 hzb.1;have m3:=EG Ya.2.2.2.2.1 hzb.1;have m4:=EG Ya.2.2.2.2.2.1 hzb.1;have m5:=EG Ya.2.2.2.2.2.2 hzb.1;clear Ya;have mw0:IntKind.i64.wrap (f0*z)=f0*z:=fN af;have sw0:IntKind.i64.wrap (d0+f0*z)=d0+f0*z:=fN af;have mw1:IntKind.i64.wrap (f1*z)=f1*z:=fN af;have sw1:IntKind.i64.wrap (d1+f1*z)=d1+f1*z:=fN af;have mw2:IntKind.i64.wrap (f2*z)=f2*z:=fN af;have sw2:IntKind.i64.wrap (d2+f2*z)=d2+f2*z:=fN af;have mw3:IntKind.i64.wrap (f3*z)=f3*z:=fN af;have sw3:IntKind.i64.wrap (d3+f3*z)=d3+f3*z:=fN af;have mw4:IntKind.i64.wrap (f4*z)=f4*z:=fN af;have sw4:IntKind.i64.wrap (d4+f4*z)=d4+f4*z:=fN af;have mw5:IntKind.i64.wrap (f5*z)=f5*z:=fN af;have sw5:IntKind.i64.wrap (d5+f5*z)=d5+f5*z:=fN af;have HM:=aa (show(-27≤f0*z∧f0*z≤27)∧(-27≤f1*z∧f1*z≤27)∧(-27≤f2*z∧f2*z≤27)∧(-27≤f3*z∧f3*z≤27)∧(-27≤f4*z∧f4*z≤27)∧(-27≤f5*z∧f5*z≤27)from⟨m0,m1,m2,m3,m4,m5⟩);clear m0 m1 m2 m3 m4 m5;go_wp2_with fail;have HG0:=aa (show cN (w6.alloc (.cells #[bU f0,bU f1,bU f2,bU f3,bU f4,bU f5,bU s6,bW A6 n6 c6,bU t6,bW B6 m6 e6] 165)) g 165 [bU d0,bU d1,bU d2,bU d3,bU d4,bU d5,bU sg,bW A n c,bU t,bW B m cc]from HGB.o.alloc _);have uy:=aa (show cN (w6.alloc (.cells #[bU f0,bU f1,bU f2,bU f3,bU f4,bU f5,bU s6,bW A6 n6 c6,bU t6,bW B6 m6 e6] 165)) wr 228 [bV wd,bU z]from HXB.o.alloc _);have ZF:=aa (show cN (w6.alloc (.cells #[bU f0,bU f1,bU f2,bU f3,bU f4,bU f5,bU s6,bW A6 n6 c6,bU t6,bW B6 m6 e6] 165)) w6 165 [bU f0,bU f1,bU f2,bU f3,bU f4,bU f5,bU s6,bW A6 n6 c6,bU t6,bW B6 m6 e6]from je rfl);have ZG:=aa (show dN 8 (w6.alloc (.cells #[bU f0,bU f1,bU f2,bU f3,bU f4,bU f5,bU s6,bW A6 n6 c6,bU t6,bW B6 m6 e6] 165)) s6 A6 n6 t6 B6 m6 (mD x.word)from⟨X9.o.1.alloc _,X9.o.2.alloc _⟩);have Wt:=aa (show dN (4+72*k) (w6.alloc (.cells #[bU f0,bU f1,bU f2,bU f3,bU f4,bU f5,bU s6,bW A6 n6 c6,bU t6,bW B6 m6 e6] 165)) sg A n t B m (lK (xs.take k) (qm 1))from⟨(Sc.o.1.bZ eo.o).alloc _,(Sc.o.2.bZ eo.o).alloc _⟩);have gY:=aa (show Below wr wr (w6.alloc (.cells #[bU f0,bU f1,bU f2,bU f3,bU f4,bU f5,bU s6,bW A6 n6 c6,bU t6,bW B6 m6 e6] 165))from eo.o.alloc eo.o.size _);obtain⟨gu,V6⟩:∃ gu,gu=w6.heap.size:=⟨_,rfl⟩;rw[← V6]at ZF ⊢;have hs0:gu<(w6.alloc (.cells #[bU f0,bU f1,bU f2,bU f3,bU f4,bU f5,bU s6,bW A6 n6 c6,bU t6,bW B6 m6 e6] 165)).heap.size:=(by rw[V6];simp);generalize (w6.alloc (.cells #[bU f0,bU f1,bU f2,bU f3,bU f4,bU f5,bU s6,bW A6 n6 c6,bU t6,bW B6 m6 e6] 165))=W0 at HG0 uy ZF ZG Wt gY hs0 ⊢;have hxu:wr.heap.size<gu:=af;clear V6 Zx Ct X9 HXB HGB;have HMX:=aa (show zJ W0 W0 g 0 [d0+f0*z,d1+f1*z,d2+f2*z,d3+f3*z,d4+f4*z,d5+f5*z] [d0,d1,d2,d3,d4,d5] [bU sg,bW A n c,bU t,bW B m cc]from⟨HG0.o,World.grownBy.refl _ _⟩);have hgW:g<W0.heap.size:=af;have hxW:wr.heap.size<W0:=af;have KF:=aa (show Below w1 w1 W0 from sj.o.trans (gY.o.mono hwr));generalize hgx:wr.heap.size=gx at uy hxu hxW x0 xg xx HF6 hwr hgr ⊢;have HGX:=aa hgx;clear hgx;obtain⟨Wo,hWo⟩:∃ Wo:World,Wo=W0:=⟨_,rfl⟩;rw[← hWo]at HG0 uy ZF ZG Wt gY KF HMX hs0 hgW hxW;go_loopw [40] (fun v wi=>∃ (k2:Nat) (y:Int),k2≤6∧y=(k2:Int)∧v=bU y∧Hid (zJ Wo wi g k2 [d0+f0*z,d1+f1*z,d2+f2*z,d3+f3*z,d4+f4*z,d5+f5*z] [d0,d1,d2,d3,d4,d5] [bU sg,bW A n c,bU t,bW B m cc])) (fun v _=>6 - (intOf v).toNat);(case atStart=>exact⟨0,0,by omega,rfl,rfl,by rw[← hWo];exact HMX.o⟩);clear HMX;obtain⟨k2,y,hk2,hy,rfl,jZ⟩:=hrel;have Wu:=jZ.o.2.size;have HXI:=aa (show cN wr gx 228 [bV wd,bU z]from(jZ.o.2.block gx hxW aq).trans uy.o);have x0c:b_ wr gx 0 (bV wd):=HXI.o.cell 0;have x1c:b_ wr gx 1 (bU z):=HXI.o.cell 1;have gne:¬(g=gx):=af;have gne2:¬(gx=g):=af;by_cases hlt2:k2<6
    ·have hc2:(k2=0∧y=0)∨(k2=1∧y=1)∨(k2=2∧y=2)∨(k2=3∧y=3)∨(k2=4∧y=4)∨(k2=5∧y=5):=af;clear hy hlt2 hk2;rcases hc2 with⟨rfl,rfl⟩|⟨rfl,rfl⟩|⟨rfl,rfl⟩|⟨rfl,rfl⟩|⟨rfl,rfl⟩|⟨rfl,rfl⟩
     (·have zK:=aa (show cN wr g 165 [bU d0,bU d1,bU d2,bU d3,bU d4,bU d5,bU sg,bW A n c,bU t,bW B m cc]from jZ.o.1);have a0:b_ wr g 0 (bU d0):=zK.o.cell 0;have a0f:wr.frozen? (bY g 0)=false:=zK.o.frozen 0;(have ix:∀ W,(Instr.index 91 (.agg #[bU f0,bU f1,bU f2,bU f3,bU f4,bU f5]) (bU 0)).run prog W= .ok (bU f0) W:=fun _=>by kernel_rfl);go_wp2_with fail;have hgd:Wo.grownBy wr.drew (some g):=⟨jZ.o.2.os,jZ.o.2.tape,jZ.o.2.output,jZ.o.2.size,jZ.o.2.block⟩;have SK:=aa hgd;clear hgd;go_still_tail 11,ah;change wpList _ _ _ _ _ wr.drew;go_wp2_with fail;have HN:=aa (show zJ Wo (wr.drew.setCell (bY g 0) (bU (d0+f0*z))) g (0+1) [d0+f0*z,d1+f1*z,d2+f2*z,d3+f3*z,d4+f4*z,d5+f5*z] [d0,d1,d2,d3,d4,d5] [bU sg,bW A n c,bU t,bW B m cc]from⟨(zK.o.drew).ez 0 (bU (d0+f0*z)),fF SK.o 0 _⟩);go_roundw;exact⟨0+1,1,by omega,rfl,rfl,HN.o⟩;simp[intOf])
     (·have zK:=aa (show cN wr g 165 [bU (d0+f0*z),bU d1,bU d2,bU d3,bU d4,bU d5,bU sg,bW A n c,bU t,bW B m cc]from jZ.o.1);have a1:b_ wr g 1 (bU d1):=zK.o.cell 1;have a1f:wr.frozen? (bY g 1)=false:=zK.o.frozen 1;(have ix:∀ W,(Instr.index 91 (.agg #[bU f0,bU f1,bU f2,bU f3,bU f4,bU f5]) (bU 1)).run prog W= .ok (bU f1) W:=fun _=>by kernel_rfl);go_wp2_with fail;have hgd:Wo.grownBy wr.drew (some g):=⟨jZ.o.2.os,jZ.o.2.tape,jZ.o.2.output,jZ.o.2.size,jZ.o.2.block⟩;have SK:=aa hgd;clear hgd;go_still_tail 11,ah;change wpList _ _ _ _ _ wr.drew;go_wp2_with fail;have HN:=aa (show zJ Wo (wr.drew.setCell (bY g 1) (bU (d1+f1*z))) g (1+1) [d0+f0*z,d1+f1*z,d2+f2*z,d3+f3*z,d4+f4*z,d5+f5*z] [d0,d1,d2,d3,d4,d5] [bU sg,bW A n c,bU t,bW B m cc]from⟨(zK.o.drew).ez 1 (bU (d1+f1*z)),fF SK.o 1 _⟩);go_roundw;exact⟨1+1,2,by omega,rfl,rfl,HN.o⟩;simp[intOf])
     (·have zK:=aa (show cN wr g 165 [bU (d0+f0*z),bU (d1+f1*z),bU d2,bU d3,bU d4,bU d5,bU sg,bW A n c,bU t,bW B m cc]from jZ.o.1);have a2:b_ wr g 2 (bU d2):=zK.o.cell 2;have a2f:wr.frozen? (bY g 2)=false:=zK.o.frozen 2;(have ix:∀ W,(Instr.index 91 (.agg #[bU f0,bU f1,bU f2,bU f3,bU f4,bU f5]) (bU 2)).run prog W= .ok (bU f2) W:=fun _=>by kernel_rfl);go_wp2_with fail;have hgd:Wo.grownBy wr.drew (some g):=⟨jZ.o.2.os,jZ.o.2.tape,jZ.o.2.output,jZ.o.2.size,jZ.o.2.block⟩;have SK:=aa hgd;clear hgd;go_still_tail 11,ah;change wpList _ _ _ _ _ wr.drew;go_wp2_with fail;have HN:=aa (show zJ Wo (wr.drew.setCell (bY g 2) (bU (d2+f2*z))) g (2+1) [d0+f0*z,d1+f1*z,d2+f2*z,d3+f3*z,d4+f4*z,d5+f5*z] [d0,d1,d2,d3,d4,d5] [bU sg,bW A n c,bU t,bW B m cc]from⟨(zK.o.drew).ez 2 (bU (d2+f2*z)),fF SK.o 2 _⟩);go_roundw;exact⟨2+1,3,by omega,rfl,rfl,HN.o⟩;simp[intOf])
     (·have zK:=aa (show cN wr g 165 [bU (d0+f0*z),bU (d1+f1*z),bU (d2+f2*z),bU d3,bU d4,bU d5,bU sg,bW A n c,bU t,bW B m cc]from jZ.o.1);have a3:b_ wr g 3 (bU d3):=zK.o.cell 3;have a3f:wr.frozen? (bY g 3)=false:=zK.o.frozen 3;(have ix:∀ W,(Instr.index 91 (.agg #[bU f0,bU f1,bU f2,bU f3,bU f4,bU f5]) (bU 3)).run prog W= .ok (bU f3) W:=fun _=>by kernel_rfl);go_wp2_with fail;have hgd:Wo.grownBy wr.drew (some g):=⟨jZ.o.2.os,jZ.o.2.tape,jZ.o.2.output,jZ.o.2.size,jZ.o.2.block⟩;have SK:=aa hgd;clear hgd;go_still_tail 11,ah;change wpList _ _ _ _ _ wr.drew;go_wp2_with fail;have HN:=aa (show zJ Wo (wr.drew.setCell (bY g 3) (bU (d3+f3*z))) g (3+1) [d0+f0*z,d1+f1*z,d2+f2*z,d3+f3*z,d4+f4*z,d5+f5*z] [d0,d1,d2,d3,d4,d5] [bU sg,bW A n c,bU t,bW B m cc]from⟨(zK.o.drew).ez 3 (bU (d3+f3*z)),fF SK.o 3 _⟩);go_roundw;exact⟨3+1,4,by omega,rfl,rfl,HN.o⟩;simp[intOf])
     (·have zK:=aa (show cN wr g 165 [bU (d0+f0*z),bU (d1+f1*z),bU (d2+f2*z),bU (d3+f3*z),bU d4,bU d5,bU sg,bW A n c,bU t,bW B m cc]from jZ.o.1);have a4:b_ wr g 4 (bU d4):=zK.o.cell 4;have a4f:wr.frozen? (bY g 4)=false:=zK.o.frozen 4;(have ix:∀ W,(Instr.index 91 (.agg #[bU f0,bU f1,bU f2,bU f3,bU f4,bU f5]) (bU 4)).run prog W= .ok (bU f4) W:=fun _=>by kernel_rfl);go_wp2_with fail;have hgd:Wo.grownBy wr.drew (some g):=⟨jZ.o.2.os,jZ.o.2.tape,jZ.o.2.output,jZ.o.2.size,jZ.o.2.block⟩;have SK:=aa hgd;clear hgd;go_still_tail 11,ah;change wpList _ _ _ _ _ wr.drew;go_wp2_with fail;have HN:=aa (show zJ Wo (wr.drew.setCell (bY g 4) (bU (d4+f4*z))) g (4+1) [d0+f0*z,d1+f1*z,d2+f2*z,d3+f3*z,d4+f4*z,d5+f5*z] [d0,d1,d2,d3,d4,d5] [bU sg,bW A n c,bU t,bW B m cc]from⟨(zK.o.drew).ez 4 (bU (d4+f4*z)),fF SK.o 4 _⟩);go_roundw;exact⟨4+1,5,by omega,rfl,rfl,HN.o⟩;simp[intOf]);have zK:=aa (show cN wr g 165 [bU (d0+f0*z),bU (d1+f1*z),bU (d2+f2*z),bU (d3+f3*z),bU (d4+f4*z),bU d5,bU sg,bW A n c,bU t,bW B m cc]from jZ.o.1);have a5:b_ wr g 5 (bU d5):=zK.o.cell 5;have a5f:wr.frozen? (bY g 5)=false:=zK.o.frozen 5;(have ix:∀ W,(Instr.index 91 (.agg #[bU f0,bU f1,bU f2,bU f3,bU f4,bU f5]) (bU 5)).run prog W= .ok (bU f5) W:=fun _=>by kernel_rfl);go_wp2_with fail;have hgd:Wo.grownBy wr.drew (some g):=⟨jZ.o.2.os,jZ.o.2.tape,jZ.o.2.output,jZ.o.2.size,jZ.o.2.block⟩;have SK:=aa hgd;clear hgd;go_still_tail 11,ah;change wpList _ _ _ _ _ wr.drew;go_wp2_with fail;have HN:=aa (show zJ Wo (wr.drew.setCell (bY g 5) (bU (d5+f5*z))) g (5+1) [d0+f0*z,d1+f1*z,d2+f2*z,d3+f3*z,d4+f4*z,d5+f5*z] [d0,d1,d2,d3,d4,d5] [bU sg,bW A n c,bU t,bW B m cc]from⟨(zK.o.drew).ez 5 (bU (d5+f5*z)),fF SK.o 5 _⟩);go_roundw;exact⟨5+1,6,by omega,rfl,rfl,HN.o⟩;simp[intOf]
    (obtain rfl:k2=6:=by omega);obtain rfl:y=6:=hy;have zK:=aa (show cN wr g 165 [bU (d0+f0*z),bU (d1+f1*z),bU (d2+f2*z),bU (d3+f3*z),bU (d4+f4*z),bU (d5+f5*z),bU sg,bW A n c,bU t,bW B m cc]from jZ.o.1);have HUI:=aa (show cN wr gu 165 [bU f0,bU f1,bU f2,bU f3,bU f4,bU f5,bU s6,bW A6 n6 c6,bU t6,bW B6 m6 e6]from(jZ.o.2.block gu hs0 aq).trans ZF.o);have hHA:=HF6.o;have HAR:=aa (show dN 8 wr s6 A6 n6 t6 B6 m6 (mD x.word)from⟨ZG.o.1.wE (Hq.nh hHA.1 af) jZ.o.2,ZG.o.2.wE (Hq.nh hHA.2 af) jZ.o.2⟩);have HFRR:=aa (show dN (4+72*k) wr sg A n t B m (lK (xs.take k) (qm 1))from⟨Wt.o.1.wE HAP.o.1.1 jZ.o.2,Wt.o.2.wE HAP.o.1.2 jZ.o.2⟩);have LC:=aa (show Below w1 w1 wr from KF.o.grown jZ.o.2 af (fun j hj=>by cases hj;exact hg1));clear hHA;have ZH:g<wr.heap.size:=af;have hgu2:gu<wr.heap.size:=af;have az:=zK.o.cell;have uz:=HUI.o.cell;clear HUI;go_wp2_with fail;have ZI:=HRT.o;have ZJ:=rT.o;refine(LN _ _ _ _ _ _ HFRR.o HAR.o ZI.1 ZI.2 ZJ.1 ZJ.2 hzb af).mono ?_;rintro e w7 ⟨s7,A7,n7,c7,t7,B7,m7,e7,rfl,QX,hF7,nA⟩;have Wl:=aa QX;have ZK:=aa hF7;have j9:=aa nA;have hw7:=nA.size;have Wv:=aa (show cN w7 g 165 [bU (d0+f0*z),bU (d1+f1*z),bU (d2+f2*z),bU (d3+f3*z),bU (d4+f4*z),bU (d5+f5*z),bU sg,bW A n c,bU t,bW B m cc]from zK.o.bZ nA ZH);have pz:=Wv.o.cell;have pzf:=Wv.o.frozen;clear QX hF7 nA ZI ZJ;go_wp2_with fail;have hm7:=HM.o;have HN:=aa (show LR xs w1 ((((w7.setCell (bY g 6) (bU s7)).setCell (bY g 7) (bW A7 n7 c7)).setCell (bY g 8) (bU t7)).setCell (bY g 9) (bW B7 m7 e7)) w g (k+1)from by
     have ht7:=F8 HRT.o.1 HRT.o.2 rT.o.1 rT.o.2 x.exp;have hft:lK (xs.take (k+1)) (qm 1)=oA (lK (xs.take k) (qm 1)) (mD x.word) z:=(by rw[j3.o,Cz,HZX.o]);have hdt:r6 (xs.take (k+1)) eH=some [d0+f0*z,d1+f1*z,d2+f2*z,d3+f3*z,d4+f4*z,d5+f5*z]:=by
      rw[j3.o,wD,HDM.o];have hxe:x=⟨x.word,z⟩:=(by rw[HZX.o]);rw[hxe];exact HDO.o
     have p1:=Hq.nh (b:=(lK (xs.take (k+1)) (qm 1)).p) ZK.o.1 ZH;have p2:=Hq.nh (b:=(lK (xs.take (k+1)) (qm 1)).q) ZK.o.2 ZH;have p3:=Hq.nh (b:=(lK (xs.take (k+1)) (qm 1)).p) ZK.o.1 (show w.heap.size<wr by omega);have p4:=Hq.nh (b:=(lK (xs.take (k+1)) (qm 1)).q) ZK.o.2 (show w.heap.size<wr by omega);have QX:=Wl.o;rw[← hft]at QX;rw[← HZX.o, ← hft]at ht7;refine⟨d0+f0*z,d1+f1*z,d2+f2*z,d3+f3*z,d4+f4*z,d5+f5*z,s7,A7,n7,c7,t7,B7,m7,e7,?_,hdt,?_,ht7,⟨⟨p1,p2⟩,⟨p3,p4⟩⟩,?_,?_,hg1⟩
     (·exact((((Wv.o.ez 6 (bU s7)).ez 7 (bW A7 n7 c7)).ez 8 (bU t7)).ez 9 (bW B7 m7 e7)))
     (·rw[show 4+72*(k+1)=4+72*k+72 by omega];exact⟨((((((((QX.1).gF p1 _)).gF p1 _)).gF p1 _)).gF p1 _),((((((((QX.2).gF p2 _)).gF p2 _)).gF p2 _)).gF p2 _)⟩)
     (·exact(((((LC.o.trans (j9.o.mono af)).setCell (p:=bY g 6) hg1 (bU s7)).setCell (p:=bY g 7) hg1 (bW A7 n7 c7)).setCell (p:=bY g 8) hg1 (bU t7)).setCell (p:=bY g 9) hg1 (bW B7 m7 e7)));refine⟨?_,?_,?_,?_,?_,?_⟩<;>(simp only[Int.natCast_add,Int.cast_ofNat_Int];omega))
    clear hm7;go_roundw;exact⟨k+1,by omega,rfl,HN.o⟩;simp[intOf];omega
  have hkx:k=xs.length:=af;(have Sb:r6 xs eH=some [d0,d1,d2,d3,d4,d5]:=by have:=HDM.o;rw[hkx,List.take_length]at this;exact this);have NX:=aa (show jK s=if dL [d0,d1,d2,d3,d4,d5]then(0,[d0,d1,d2,d3,d4,d5])else(3,eH)from by rw[HU.o];simp only[Sb]);have Vt:=aa (show EH s.data.toList=lK (xs.take k) (qm 1)from by rw[hkx,List.take_length];exact HRD.o xs rfl);clear Sb;generalize hdr:dL [d0,d1,d2,d3,d4,d5]=dr at NX;have HDR:=aa hdr;clear hdr;go_wp2_with fail;refine(mF _ _ _ _ _ _ _).mono ?_;rintro e w9 ⟨rfl,lW⟩;rw[HDR.o];have jt:=aa lW;have hw9:=lW.size;have HG9:=aa (VT.o.bZ lW hgr);have HZ9:=aa (HZR.o.bZ lW af);clear lW hkx;clear a0 a0f a1 a1f a2 a2f a3 a3f a4 a4f a5 a5f a6 a6f a7 a7f a8 a8f a9 a9f;have qz:=HZ9.o.cell;have qzf:=HZ9.o.frozen;have az:=HG9.o.cell;cases dr with
  |false=>
   have HU3:=aa (show jK s=(3,eH) by rw[NX.o];rfl);go_wp2_with fail;exact bodyPost_ret (v:= .tuple #[.agg #[bU 0,bU 0,bU 0,bU 0,bU 0,bU 0,bU 0,cD,bU 0,cD],bU 3]) (by simp[results,results84,go_sem,qz]) rfl ⟨0,0,0,0,0,0,0,none,0,0,0,none,0,0,by rw[HU3.o],by rw[HU3.o];rfl,fun h=>(by rw[HU3.o]at h;exact absurd h ak),CB ((gW.o.trans (sj.o.mono IX)).trans (jt.o.mono (aaC IX hwr)))⟩
  |true=>
   have ZF:=aa (show jK s=(0,[d0,d1,d2,d3,d4,d5]) by rw[NX.o];rfl);go_wp2_with fail;have hfr9:=Sc.o;have qq:=HAP.o.2;have lW:=jt.o;exact bodyPost_ret (v:= .tuple #[.agg #[bU d0,bU d1,bU d2,bU d3,bU d4,bU d5,bU sg,bW A n c,bU t,bW B m cc],bU 0]) (by simp[results,results84,go_sem,qz]) rfl ⟨d0,d1,d2,d3,d4,d5,sg,A,n,c,t,B,m,cc,by rw[ZF.o],by rw[ZF.o],fun _=>⟨(by rw[Vt.o];exact⟨(((((((((((((((((((((hfr9.1.bZ lW).up af).gF qq.1 _)).gF qq.1 _)).gF qq.1 _)).gF qq.1 _)).gF qq.1 _)).gF qq.1 _)).gF qq.1 _)).gF qq.1 _)).gF qq.1 _)).gF qq.1 _),(((((((((((((((((((((hfr9.2.bZ lW).up af).gF qq.2 _)).gF qq.2 _)).gF qq.2 _)).gF qq.2 _)).gF qq.2 _)).gF qq.2 _)).gF qq.2 _)).gF qq.2 _)).gF qq.2 _)).gF qq.2 _)⟩),by rw[Vt.o];exact HRT.o⟩,((((((((((((gW.o.trans (sj.o.mono IX)).trans (jt.o.mono (aaC IX hwr))).setCell (p:=bY w 0) aac (bU d0)).setCell (p:=bY w 1) aac (bU d1)).setCell (p:=bY w 2) aac (bU d2)).setCell (p:=bY w 3) aac (bU d3)).setCell (p:=bY w 4) aac (bU d4)).setCell (p:=bY w 5) aac (bU d5)).setCell (p:=bY w 6) aac (bU sg)).setCell (p:=bY w 7) aac (bW A n c)).setCell (p:=bY w 8) aac (bU t)).setCell (p:=bY w 9) aac (bW B m cc))⟩
def iU (ps:List eR) (x:cw):Bool:=x.op==1&&decide (mY ps x.name<0)
def qs (ps:List eR):Nat→Bool
 |0=>false
 |k+1=>qs ps k||match ps[k]? with|some q=>decide (mY ps q.name<(k:Int))|none=>false
def nE (fs:List cK) (f:cK):Int:=
 if qs f.params f.params.length then 5 else if dy (iU f.params) f.body||dy (jG fs) f.body then 11 else if dy (jX fs) f.body then 1 else 0
structure IZ (pf:Nat) (fn:ByteArray) (A:Option Addr) (d:Nat) (ps:List eR) (op n:Int) (un nm:ByteArray) (A2:Option Addr) (k c2:Nat) (W:World):Prop where
 cell:∀ j,W.cell? (bY pf j)=([bV fn,bW A ps d,bU op,bU n,bV un,bV nm,bW A2 k c2]:List Value)[j]?
 lt:pf<W.heap.size
 sq:Sq jo W Any A ps
 len:ps.length≤6
theorem IZ.bZ {pf:Nat} {fn:ByteArray} {A:Option Addr} {d:Nat} {ps:List eR} {op n:Int} {un nm:ByteArray} {A2:Option Addr} {k c2:Nat} {W W':World} (h:IZ pf fn A d ps op n un nm A2 k c2 W) (hb:Below W W W'):IZ pf fn A d ps op n un nm A2 k c2 W':=
 ⟨fun j=>(hb.cell (p:=bY pf j) h.lt).trans (h.cell j),aaD h.lt hb.size,h.sq.bZ hb,h.len⟩
theorem Gd:∀ args w,(callFunc 131 args).run prog w= .ok (.enter 131 args) w:=enters_of func131 ah rfl
theorem LU (pf:Nat) (fn:ByteArray) (A:Option Addr) (d:Nat) (ps:List eR) (fo fm:Int) (fu fq:ByteArray) (A2:Option Addr) (fk c2:Nat) (W:World) (cs:List Value) (y:cw) (hF:IZ pf fn A d ps fo fm fu fq A2 fk c2 W) (hI:cH W Any cs y):Calls prog 131 (#[.agg cs.toArray]++#[.pointer (bY pf 0)]) W (lG (iU ps y) W):=by
 obtain⟨op,n,un,nm,B,k,ar,e1,e2,_⟩:=hI.parts;subst e1 e2;have h0:=hF.cell;have hp:=hF.lt;have HF:=aa (fun W' (hb:Below W W W')=>ox .nilFunc A d ps fo fm fu fq A2 fk c2 fn nm W' (hF.sq.bZ hb) (by have:=hF.len;unfold maxLen;omega));have HR:=aa (show iU ps (.mk op n un nm ar)=(op==1&&decide (mY ps nm<0))from rfl);generalize iU ps (.mk op n un nm ar)=r at HR ⊢;generalize mY ps nm=z at HF HR;generalize ps.length=m at h0 HF;clear hI hF;show Calls prog 131 #[.agg #[bU op,bU n,bV un,bV nm,bW B ar k],.pointer (bY pf 0)] W _;have HB:=aa (show Below W W (W.alloc (.cells #[bU op,bU n,bV un,bV nm,bW B ar k] 47))from cS _);by_cases ho:op=1
 (·subst ho;go_enter func131,ntmps131;go_wp2_with fail;refine(HF.o _ HB.o).mono ?_;rintro e w1 ⟨rfl,hb⟩;have HW:=aa (HB.o.trans (hb.mono HB.o.size));clear hb;go_wp2;go_ret;exact⟨by rw[HR.o];rfl,HW.o⟩);have h3:(op==1)=false:=bD;go_enter func131,ntmps131;go_wp2;go_ret;exact⟨by rw[HR.o,h3];rfl,HB.o⟩
theorem SL (l:List eR) (w:World) (hq:∀ q∈l,vX q∧cQ q.unit=true):jT prog 130 #[] jo (fun _=>false) l w:=fun W cs x hx ey hb=>by
 have e:cs=[bV x.name,bV x.unit]:=ey;subst e;have HQ:=aa (fun W=>nV x.unit W (hq x hx).1.unit);have H0:=aa (show((jK x.unit).1 != 0)=false by have:=(hq x hx).2;unfold cQ at this;simpa using this);have HB:=aa (show Below W W (W.alloc (.cells #[bV x.name,bV x.unit] 112))from cS _);generalize x.name=xn at HB ⊢;generalize x.unit=xu at HQ HB H0 ⊢;clear ey hx hq;show Calls prog 130 #[.agg #[bV xn,bV xu]] W _;go_enter func130,ntmps130;go_wp2_with fail;refine(HQ.o _).mono ?_;rintro e w1 ⟨d0,d1,d2,d3,d4,d5,s',A,n,c,t,B,m,cc,rfl,hd,hf,hb1⟩;have HW:=aa (HB.o.trans (hb1.mono HB.o.size));clear hb1 hd hf;go_wp2;go_ret;exact⟨cZ H0.o,HW.o.alloc HW.o.size _⟩
def tW (g:Nat) (A:Option Addr) (c:Nat) (fs:List cK) (w:World) (e:Ending) (w':World):Prop:=
 e= .returned (.func (.func g) #[] #[.pointer (bY w 0)])∧uQ w A c fs w'∧Below w w w'
theorem I1 (A:Option Addr) (c:Nat) (fs:List cK) (w:World) (hs:Sq gR w Any A fs) (hl:fs.length≤1000000000):uQ w A c fs (w.alloc (.cells #[bW A fs c] 25)):=
 ⟨cN.cell (heap_alloc_new w _) 0,by simp,hs.alloc _,hl⟩
theorem wG (A:Option Addr) (c:Nat) (fs:List cK) (w:World) (hs:Sq gR w Any A fs) (hl:fs.length≤1000000000):Calls prog 88 #[bW A fs c] w (tW 147 A c fs w):=by
 have HN:=aa (I1 A c fs w hs hl);generalize hP:tW 147 A c fs w=P;have HP:=aa (show ∀ e w',tW 147 A c fs w e w'→P e w' from fun e w' h=>hP▸h);clear hP hs hl;generalize fs.length=m at HN ⊢;go_enter func88,ntmps88;go_wp2;exact HP.o _ _ ⟨rfl,HN.o,cS _⟩
theorem zM (A:Option Addr) (c:Nat) (fs:List cK) (w:World) (hs:Sq gR w Any A fs) (hl:fs.length≤1000000000):Calls prog 89 #[bW A fs c] w (tW 148 A c fs w):=by
 have HN:=aa (I1 A c fs w hs hl);generalize hP:tW 148 A c fs w=P;have HP:=aa (show ∀ e w',tW 148 A c fs w e w'→P e w' from fun e w' h=>hP▸h);clear hP hs hl;generalize fs.length=m at HN ⊢;go_enter func89,ntmps89;go_wp2;exact HP.o _ _ ⟨rfl,HN.o,cS _⟩
theorem ia {p:cw→Bool} {x:cw} (h:dy p x=false):p x=false:=by
 cases x with|mk op n u nm args=>rw[lI,Bool.or_eq_false_iff]at h;exact h.1
theorem iY {p:cw→Bool} {x y:cw} (h:dy p x=false) (hy:y∈x.args):dy p y=false:=by
 (cases x with|mk op n u nm args=>rw[lI,Bool.or_eq_false_iff]at h;exact List.any_eq_false.1 h.2 y hy |> fun h=>by simpa using h)
theorem LV (A0:Option Addr) (c:Nat) (fs:List cK) (w:World) (i:Nat) (hs:Sq gR w Any A0 fs) (hl:fs.length≤1000000000) (hi:i<fs.length) (ho:Nw fs[i]) (hu:findF fs fs[i].name=(i:Int)) (hn:cE fs[i].body≤1000000) (hq:∀ q∈fs[i].params,cQ q.unit=true):Calls prog 80 #[bW A0 fs c,bU i] w (qc (nE fs fs[i]) w):=by
 obtain⟨b,o,cs,hA,_,hb,ey,cT⟩:=hs.get hi;subst hA;have HF:=aa (fun W (hW:Below w w W)=>IC fs[i] cs W (gR.keep ey (cB.cA hW)) ho);have uk:=aa (fun W (hW:Below w w W)=>qd (bY b o) c fs fs[i].name W (hs.bZ hW) aH);rw[hu]at uk;have HU:=aa (fun W (hW:Below w w W)=>wG (bY b o) c fs W (hs.bZ hW) hl);have HV:=aa (fun W (hW:Below w w W)=>zM (bY b o) c fs W (hs.bZ hW) hl);have HE:=aa (show nE fs fs[i]=if qs fs[i].params fs[i].params.length then 5 else if dy (iU fs[i].params) fs[i].body||dy (jG fs) fs[i].body then 11 else if dy (jX fs) fs[i].body then 1 else 0 from rfl);generalize nE fs fs[i]=r at HE ⊢;generalize fs[i]=f at HF uk HE ho hn hq ey;clear hs hu;obtain⟨A,d,es,e,hsp,hie⟩:=ey;have HX:=aa (fun W (hW:Below w w W)=>hie.keep (cB.cA hW));obtain⟨op,n,un,nm,A2,c2,ar,hbd,hes,_⟩:=hie.parts;subst hes e;have hms:f.params.length≤6:=ho.hi;have vH:=aa (fun q (h:q∈f.params)=>And.intro (ho.sm.each q h) (hq q h));have Nh:=aa hsp;have h0:b_ w b (o+i*7) (bV f.name):=cT 0 _ rfl;have h1:b_ w b (o+i*7+1) (bW A f.params d):=cT 1 _ rfl;have h2:b_ w b (o+i*7+2) (bU op):=cT 2 _ rfl;have h3:b_ w b (o+i*7+3) (bU n):=cT 3 _ rfl;have h4:b_ w b (o+i*7+4) (bV un):=cT 4 _ rfl;have h5:b_ w b (o+i*7+5) (bV nm):=cT 5 _ rfl;have h6:b_ w b (o+i*7+6) (bW A2 ar c2):=cT 6 _ rfl;clear cT ho hq hsp;have Vn:=aa (fun(W:World) (h:IZ w f.name A d f.params op n un nm A2 ar.length c2 W) (hW:Below w w W)=>
  qg Gd (lb:=#[.pointer (bY w 0)]) (iU f.params) (fun W=>IZ w f.name A d f.params op n un nm A2 ar.length c2 W) (fun _=>True) (fun _ _ _ _=>trivial) (fun h hb=>h.bZ hb) (fun W cs y _ hQ hI=>LU w f.name A d f.params op n un nm A2 ar.length c2 W cs y hQ hI) f.body hn W _ trivial h (HX.o W hW))
 have HP2:=aa (fun(pf:Nat) (W:World) (hW:Below w w W) (h:uQ pf (bY b o) c fs W)=>
  qg BZ (lb:=#[.pointer (bY pf 0)]) (jG fs) (uQ pf (bY b o) c fs) (fun _=>True) (fun _ _ _ _=>trivial) (fun h hb=>h.bZ hb) (fun W cs y _ hQ hI=>IB pf _ c fs W cs y hQ hI) f.body hn W _ trivial h (HX.o W hW))
 have LW:=aa (fun(hk:dy (jG fs) f.body=false) (pf:Nat) (W:World) (hW:Below w w W) (h:uQ pf (bY b o) c fs W)=>
  qg zy (lb:=#[.pointer (bY pf 0)]) (jX fs) (uQ pf (bY b o) c fs) (fun x=>dy (jG fs) x=false) (fun x hx y hy=>iY hx hy) (fun h hb=>h.bZ hb) (fun W cs y hy hQ hI=>Eu pf _ c fs W cs y hQ hI (ia hy)) f.body hn W _ hk h (HX.o W hW))
 clear HX hn hie;generalize hsb:dy (iU f.params) f.body=sb at HE Vn;generalize hub:dy (jG fs) f.body=ub at HE HP2 LW;generalize dy (jX fs) f.body=vb at HE LW;clear hsb hub hbd;obtain⟨ps,hps⟩:∃ ps,ps=f.params:=⟨_,rfl⟩;rw[← hps]at Vn HE vH Nh hms h1;have HPs:=aa hps;have hwk:Below w w (w.alloc (.cells #[bV f.name,bW A ps d,bU op,bU n,bV un,bV nm,bW A2 ar c2] 69)):=cS _;have SM:Hid (IZ w f.name A d ps op n un nm A2 ar.length c2 (w.alloc (.cells #[bV f.name,bW A ps d,bU op,bU n,bV un,bV nm,bW A2 ar c2] 69))):=
  aa ⟨cN.cell (heap_alloc_new w _),by simp,Nh.o.alloc _,hms⟩
 rw[← hps]at HF;have gW:=aa hwk;have Yb:=aa (HF.o _ hwk);generalize hf:f.name=fn at HF uk Vn SM h0 Yb gW;clear hps hwk HF HPs hf;have hie0:decide ((i:Int)<(i:Int))=false:=ai;generalize hP:qc r w=P;have HP:=aa (show ∀ e w',qc r w e w'→P e w' from fun e w' h=>hP▸h);clear hP;go_enter func80,ntmps80;go_wp2_with fail;refine Yb.o.mono ?_;rintro e w2 ⟨rfl,hb2⟩;have dI:=aa (gW.o.trans (hb2.mono gW.o.size));have I2:=aa (SM.o.bZ hb2);have y2:=I2.o.cell;clear hb2 SM Yb gW h0 h1 h2 h3 h4 h5 h6;go_wp2_with fail;refine(uk.o w2 dI.o).mono ?_;rintro e w3 ⟨rfl,hb3⟩;have eE:=aa (dI.o.trans (hb3.mono dI.o.size));have SN:=aa (I2.o.bZ hb3);have y3:=SN.o.cell;clear hb3 I2 dI y2 uk;go_wp2_with fail;clear y3;go_loopw [6,27] (fun v6 s27 wr=>∃ k:Nat,k≤ps.length∧s27=bU (k:Int)∧v6= .bool (qs ps k)∧Hid (Below w w wr)∧Hid (IZ w fn A d ps op n un nm A2 ar.length c2 wr)) (fun _ s27 _=>ps.length - (intOf s27).toNat);(case atStart=>exact⟨0,aaG _,rfl,rfl,eE,SN⟩);clear eE SN;obtain⟨k,hk,rfl,rfl,gz,Pf⟩:=hrel;by_cases hlt:k<ps.length
 ·obtain⟨b2,o2,cs2,Wq,_,hb2,Ge,Pg⟩:=Pf.o.sq.get hlt;subst Wq;have e2:cs2=[bV ps[k].name,bV ps[k].unit]:=Ge;subst e2;have g0:b_ wr b2 (o2+k*2) (bV ps[k].name):=Pg 0 _ rfl;have g1:b_ wr b2 (o2+k*2+1) (bV ps[k].unit):=Pg 1 _ rfl;have HD:=aa (show qs ps (k+1)=(qs ps k||decide (mY ps ps[k].name<(k:Int))) by unfold qs;rw[List.getElem?_eq_getElem hlt];cases k<;>rfl);generalize hpn:ps[k].name=pn at g0 HD;generalize ps[k].unit=pu at g1;have dO:=aa (gz.o.alloc gz.o.size (.cells #[bV pn,bV pu] 112));have Gf:=aa (Pf.o.bZ (cS (.cells #[bV pn,bV pu] 112)));have EI:=aa (ox .nilFunc _ d ps op n un nm A2 ar.length c2 fn pn _ Gf.o.sq aH);have y5:=Gf.o.cell;clear Pg Ge hpn;generalize mY ps pn=z at HD EI;cases hdup:qs ps k with
  |true=>
   have HD2:=aa (show true=qs ps (k+1) by rw[HD.o,hdup];rfl);clear hdup EI;go_wp2;go_roundw;exact⟨k+1,by omega,rfl,by rw[← HD2.o],dO,Gf⟩;simp[intOf];omega
  |false=>
   have HD2:=aa (show decide (z<(k:Int))=qs ps (k+1) by rw[HD.o,hdup];rfl);clear hdup HD;go_wp2_with fail;refine EI.o.mono ?_;rintro e w6 ⟨rfl,eM⟩;have eo:=aa (dO.o.trans (eM.mono dO.o.size));have HFn6:=aa (Gf.o.bZ eM);clear eM EI y5;go_wp2;go_roundw;exact⟨k+1,by omega,rfl,by rw[← HD2.o],eo,HFn6⟩;simp[intOf];omega
 (obtain rfl:k=ps.length:=by omega);have y4:=Pf.o.cell;cases hdup:qs ps ps.length with
 |true=>
  have HR:=aa (show r=5 by rw[HE.o,hdup];rfl);clear hdup;go_wp2;exact HP.o (.returned (bU 5)) _ ⟨by rw[HR.o],gz.o⟩
 |false=>
  have HR:=aa (show r=if sb||ub then 11 else if vb then 1 else 0 by rw[HE.o,hdup];rfl);have HC:=aa (ou (fun _=>false) 130 #[] (enters_of func130 ah rfl) A d ps wr (SL ps wr vH.o) aH Pf.o.sq);rw[show(ps.any fun _=>false)=false by induction ps<;>simp_all]at HC;clear hdup HE;go_wp2_with fail;refine HC.o.mono ?_;rintro e w5 ⟨rfl,ew⟩;have dO:=aa (gz.o.trans (ew.mono gz.o.size));have Gf:=aa (Pf.o.bZ ew);clear ew HC gz Pf y4;have y5:=Gf.o.cell;have I3:=aa (fun W (q:Below w5 w5 W)=>(Gf.o.bZ q).cell);have DD:=aa (fun W (q:Below w5 w5 W)=>Vn.o W (Gf.o.bZ q) (dO.o.trans (q.mono dO.o.size)));have HU:=aa (fun W (q:Below w5 w5 W)=>HU.o W (dO.o.trans (q.mono dO.o.size)));have HV:=aa (fun W (q:Below w5 w5 W)=>HV.o W (dO.o.trans (q.mono dO.o.size)));have uq:=aa (fun pf W (q:Below w5 w5 W) h=>HP2.o pf W (dO.o.trans (q.mono dO.o.size)) h);have CC:=aa (fun hk pf W (q:Below w5 w5 W) h=>LW.o hk pf W (dO.o.trans (q.mono dO.o.size)) h);have Ww:=aa (fun W (q:Below w5 w5 W)=>dO.o.trans (q.mono dO.o.size));clear Vn HP2 LW dO Gf;cases sb with
  |true=>
   go_wp2_with fail;refine dz (S:=fun w'=>∀ j,w'.cell? (bY w j)=([bV fn,bW A ps d,bU op,bU n,bV un,bV nm,bW A2 ar c2]:List Value)[j]?) [0,2,1,4,5,7,6,8,9,10,11] [(0,false),(2,false),(1,false),(3,true),(4,false),(5,false),(7,false),(6,false),(8,false),(9,false),(10,false),(11,false)] ah ah au rfl ah (y5) ?_;(iterate 3 refine hwr ?_);refine hwt fun K hK=>?_;go_simp;refine(DD.o _ dV.jq).mono ?_;rintro e w6 ⟨rfl,eM⟩;have eo:=aa (dV.jq.trans (eM.mono dV.jq.size));have y6:=I3.o w6 eo.o;clear eM;refine hK.o _ _ (y6) ?_;clear hK K;refine hwr ?_;(iterate 5 refine hws ?_);refine hwr ?_;refine hwr ?_;refine fA ?_;(try go_frame);have v_:=aa (show r=11 by rw[HR.o];rfl);clear HR;go_wp2;exact HP.o (.returned (bU 11)) _ ⟨by rw[v_.o],Ww.o _ eo.o⟩
  |false=>
   go_wp2_with fail;refine dz (S:=fun w'=>∀ j,w'.cell? (bY w j)=([bV fn,bW A ps d,bU op,bU n,bV un,bV nm,bW A2 ar c2]:List Value)[j]?) [0,2,1,4,5,7,6,10,11] [(0,false),(2,false),(1,false),(3,true),(4,false),(5,false),(7,false),(6,false),(8,true),(9,true),(10,false),(11,false)] ah ah au rfl ah (y5) ?_;(iterate 3 refine hwr ?_);refine hwt fun K hK=>?_;go_simp;refine(DD.o _ dV.jq).mono ?_;rintro e w6 ⟨rfl,eM⟩;have eo:=aa (dV.jq.trans (eM.mono dV.jq.size));have y6:=I3.o w6 eo.o;clear eM;refine hK.o _ _ (y6) ?_;clear hK K;(iterate 4 refine hwr ?_);refine hwt fun K hK=>?_;go_simp;refine(HU.o w6 eo.o).mono ?_;rintro e w7 ⟨rfl,hf7,nA⟩;have j9:=aa (eo.o.trans (nA.mono eo.o.size));have y7:=I3.o w7 j9.o;have ZK:=aa hf7;clear nA hf7;refine hK.o _ _ (y7) ?_;clear hK K;refine hwt fun K hK=>?_;go_simp;refine(uq.o _ w7 j9.o ZK.o).mono ?_;rintro e w8 ⟨rfl,oU⟩;have mN:=aa (j9.o.trans (oU.mono j9.o.size));clear oU;refine hK.o _ _ (I3.o w8 mN.o) ?_;clear hK K;refine hwr ?_;refine hwr ?_;refine fA ?_;(try go_frame);clear y5 y6 y7 ZK;cases ub with
   |true=>
    have v_:=aa (show r=11 by rw[HR.o];rfl);clear HR;go_wp2;exact HP.o (.returned (bU 11)) _ ⟨by rw[v_.o],Ww.o _ mN.o⟩
   |false=>
    have zO:=aa (rfl:(false:Bool)=false);have y8:=I3.o w8 mN.o;go_wp2_with fail;refine dz (S:=fun w'=>∀ j,w'.cell? (bY w j)=([bV fn,bW A ps d,bU op,bU n,bV un,bV nm,bW A2 ar c2]:List Value)[j]?) [0,2,1,5] [(0,false),(2,false),(1,false),(3,true),(4,true),(5,false)] ah ah au rfl ah (y8) ?_;(iterate 3 refine hwr ?_);refine hwt fun K hK=>?_;go_simp;have lM:=aa (mN.o.trans (dV.jq.mono mN.o.size));refine(HV.o _ lM.o).mono ?_;rintro e w9 ⟨rfl,Zs,lW⟩;have jt:=aa (lM.o.trans (lW.mono lM.o.size));have y9:=I3.o w9 jt.o;have HF9:=aa Zs;clear lW Zs;refine hK.o _ _ (y9) ?_;clear hK K;refine hwt fun K hK=>?_;go_simp;refine(CC.o zO.o _ w9 jt.o HF9.o).mono ?_;rintro e wa ⟨rfl,hba⟩;have ZL:=aa (jt.o.trans (hba.mono jt.o.size));clear hba;refine hK.o _ _ (I3.o wa ZL.o) ?_;clear hK K;refine hwr ?_;refine fA ?_;(try go_frame);clear y8 y9 HF9;cases vb with
    |true=>
     have v_:=aa (show r=1 by rw[HR.o];rfl);clear HR;go_wp2;exact HP.o (.returned (bU 1)) _ ⟨by rw[v_.o],Ww.o _ ZL.o⟩
    |false=>
     have v_:=aa (show r=0 by rw[HR.o];rfl);clear HR;go_wp2;exact HP.o (.returned (bU 0)) _ ⟨by rw[v_.o],Ww.o _ ZL.o⟩
section
def DW (fs:List cK):Nat→List Int→Nat→Bool×List Int
 |0,st,_=>(false,st)
 |k+1,st,i=>if st.getD i 0=0 then
  (match fs[i]? with
  |none=>(false,st)
  |some f=>
   let r:=js (fun s x=>if x.op=3 then DW fs k s (findF fs x.name).toNat else(false,s)) (st.set i 1) f.body
   (r.1,r.2.set i 2))
  else(st.getD i 0==1,st)
def yh (fs:List cK) (k:Nat) (s:List Int) (x:cw):Bool×List Int:=if x.op=3 then DW fs k s (findF fs x.name).toNat else(false,s)
def zeros (st:List Int):Nat:=st.countP (· ==0)
theorem yj {st:List Int} {i:Nat} (z:Int) (hz:z≠0):zeros (st.set i z)≤zeros st:=by
 induction st generalizing i with
 |nil=>simp[zeros]
 |cons a l ih=>
  cases i with
  |zero=>simp only[List.set_cons_zero,zeros,List.countP_cons];split<;>split<;>simp_all<;>omega
  |succ i=>have:=ih (i:=i);simp only[List.set_cons_succ,zeros,List.countP_cons]at this ⊢;omega
theorem CD {st:List Int} {i:Nat} (hi:i<st.length) (h0:st.getD i 0=0) (z:Int) (hz:z≠0):zeros (st.set i z)<zeros st:=by
 induction st generalizing i with
 |nil=>simp at hi
 |cons a l ih=>
  cases i with
  |zero=>simp at h0;subst h0;simp only[List.set_cons_zero,zeros,List.countP_cons];simp[hz]
  |succ i=>have:=ih (i:=i) aW aS;simp only[List.set_cons_succ,zeros,List.countP_cons]at this ⊢;omega
theorem LX {σ α:Type} {p:σ→α→Bool×σ} (I:σ→Prop) (l:List α) (h:∀ y∈l,∀ s,I s→I (p s y).2):∀ s,I s→I (anyM p s l).2:=by
 induction l with
 |nil=>intro s hs;exact hs
 |cons y l ih=>
  intro s hs;have h1:=h y ai s hs;cases hb:(p s y).1 with
  |true=>rw[qa hb];exact h1
  |false=>rw[ow hb];exact ih (fun y hy=>h y (by simp[hy])) _ h1
theorem I4 {σ:Type} {p:σ→cw→Bool×σ} (I:σ→Prop) (h:∀ s y,I s→I (p s y).2) (N:Nat):∀ (x:cw),cE x≤N→∀ s,I s→I (js p s x).2:=by
 induction N with
 |zero=>intro x hx;have:=dB x;omega
 |succ N ih=>
  intro x hx s hs;cases x with
  |mk op n u nm args=>
   have hn:cE (.mk op n u nm args)=1+cR args:=aM;have h1:=h s (.mk op n u nm args) hs;cases hb:(p s (.mk op n u nm args)).1 with
   |true=>rw[qN hb];exact h1
   |false=>rw[o9 hb];exact LX I args (fun y hy s hs=>ih y (by have:=dH args y hy;omega) s hs) _ h1
theorem EJ (fs:List cK) (m z:Nat):∀ (k:Nat) (st:List Int) (i:Nat),st.length=m∧zeros st≤z→(DW fs k st i).2.length=m∧zeros (DW fs k st i).2≤z:=by
 intro k;induction k with
 |zero=>intro st i h;exact h
 |succ k ih=>
  intro st i h;unfold DW;split
  ·split
   (·exact h);next f _=>
   have h1:=I4 (p:=yh fs k) (fun s:List Int=>s.length=m∧zeros s≤z) (fun s y hs=>by unfold yh;split;exact ih _ _ hs;exact hs) (cE f.body) f.body aac (st.set i 1) ⟨by simpa using h.1,aaC (yj 1 ak) h.2⟩;refine⟨?_,aaC (yj 2 ak) h1.2⟩;show(List.set _ i 2).length=m;rw[List.length_set];exact h1.1
  exact h
theorem kV {S:Nat→Prop} {W:World} {b i:Nat} {u:Value} (hb:¬S b):cB S W (W.setCell (bY b i) u):=
 ⟨by simp[World.setCell],fun c hc hs=>aae W (bY b i) u c (fun e=>hb (by have e2:c=b:=e;exact e2▸hs))⟩
structure jO (W0:World) (pc gs:Nat) (A:Option Addr) (c:Nat) (fs:List cK) (z:Nat) (st:List Int) (W:World):Prop where
 lY:b_ W pc 0 (bW A fs c)
 CE:b_ W pc 1 (bW (bY gs 0) fs fs)
 blk:cN W gs 3 (st.map fun n=>bU n)
 len:st.length=fs.length
 sK:pc<W.heap.size
 AL:gs<W.heap.size
 ne:pc≠gs
 sq:Sq gR W (fun b=>b≠gs) A fs
 zs:zeros st≤z
 low:Below gs W0 W
section
variable {W0:World} {pc gs:Nat} {A:Option Addr} {c z:Nat} {fs:List cK} {st:List Int} {W W':World}
theorem jO.bZ (h:jO W0 pc gs A c fs z st W) (hb:Below W W W'):jO W0 pc gs A c fs z st W':=
 ⟨(hb.cell (p:=bY pc 0) h.sK).trans h.lY,(hb.cell (p:=bY pc 1) h.sK).trans h.CE,h.blk.bZ hb h.AL,h.len,aaD h.sK hb.size,aaD h.AL hb.size,h.ne,h.sq.bZ hb,h.zs,h.low.trans (hb.mono (Nat.le_of_lt h.AL))⟩
theorem jO.less (h:jO W0 pc gs A c fs z st W) {y:Nat} (hy:zeros st≤y):jO W0 pc gs A c fs y st W:=⟨h.lY,h.CE,h.blk,h.len,h.sK,h.AL,h.ne,h.sq,hy,h.low⟩
theorem jO.set (h:jO W0 pc gs A c fs z st W) (i:Nat) (n:Int) (hn:n≠0):jO W0 pc gs A c fs z (st.set i n) (W.setCell (bY gs i) (bU n))∧cB (fun b=>b≠gs) W (W.setCell (bY gs i) (bU n)):=by
 have K:cB (fun b=>b≠gs) W (W.setCell (bY gs i) (bU n)):=kV ai;have hsz:(W.setCell (bY gs i) (bU n)).heap.size=W.heap.size:=bF;refine⟨⟨?_,?_,?_,by simpa using h.len,by rw[hsz];exact h.sK,by rw[hsz];exact h.AL,h.ne,h.sq.keep K,aaC (yj n hn) h.zs,h.low.setCell aac _⟩,K⟩
 (·exact(World.cell?_of_block (a:=bY pc 0) (K.2 pc h.sK h.ne)).trans h.lY)
 (·exact(World.cell?_of_block (a:=bY pc 1) (K.2 pc h.sK h.ne)).trans h.CE);have:=h.blk.ez i (bU n);rw[List.map_set];exact this
theorem jO.state (h:jO W0 pc gs A c fs z st W) {i:Nat} (hi:i<fs.length):b_ W gs i (bU (st.getD i 0)):=by
 have hi':i<st.length:=(by rw[h.len];exact hi);rw[h.blk.cell i,List.getElem?_map,List.getElem?_eq_getElem hi',aam,List.getElem?_eq_getElem hi'];rfl
end
theorem I5 {fs:List cK} {k i:Nat} {st:List Int} (h:¬st.getD i 0=0):DW fs (k+1) st i=(st.getD i 0==1,st):=by unfold DW;rw[if_neg h]
theorem NY {fs:List cK} {k i:Nat} {st:List Int} (hi:i<fs.length) (h:st.getD i 0=0):DW fs (k+1) st i=((js (yh fs k) (st.set i 1) fs[i].body).1,(js (yh fs k) (st.set i 1) fs[i].body).2.set i 2):=by
 (conv=>lhs;unfold DW);rw[if_pos h,List.getElem?_eq_getElem hi];rfl
theorem I6:∀ args w,(callFunc 132 args).run prog w= .ok (.enter 132 args) w:=enters_of func132 ah rfl
theorem qu {fs:List cK} {nm:ByteArray} (h:¬findF fs nm<0):findF fs nm=((findF fs nm).toNat:Int)∧(findF fs nm).toNat<fs.length:=by
 have:=FZ (Kz nm) fs;change findF fs nm<_ at this;omega
theorem SQ (W0:World) (pc gs q:Nat) (A:Option Addr) (c z k:Nat) (fs:List cK) (hl:fs.length≤1000000000) (hz:z<k)
 (ih:∀ (st:List Int) (i:Nat) (W:World),i<fs.length→jO W0 pc gs A c fs z st W→Calls prog 81 #[.pointer (bY pc 0),bU i] W (kA (fun b=>b≠gs) (jO W0 pc gs A c fs z) (DW fs k st i) W)):
 Y6 132 #[.pointer (bY q 0)] (fun b=>b≠gs) (fun x=>dy (jG fs) x=false) (yh fs k) (fun s W=>jO W0 pc gs A c fs z s W∧b_ W q 0 (.pointer (bY pc 0))∧q<W.heap.size∧q≠gs) where
 enters:=I6
 bZ h hb:=⟨h.1.bZ hb,(hb.cell (p:=bY q 0) h.2.2.1).trans h.2.1,aaD h.2.2.1 hb.size,h.2.2.2⟩
 new h b hb:=by have:=h.1.AL;omega
 call s W cs y hy hst hI:=by
  obtain⟨h1,h2,h3,h4⟩:=hst;have hk:=ia hy;obtain⟨op,n,un,nm,B,k2,ar,e1,e2,_⟩:=hI.parts;subst e1 e2;generalize hP:kA (fun b=>b≠gs) (fun s W=>jO W0 pc gs A c fs z s W∧b_ W q 0 (.pointer (bY pc 0))∧q<W.heap.size∧q≠gs) (yh fs k s (.mk op n un nm ar)) W=P;have HP:=aa (show ∀ e w',kA (fun b=>b≠gs) (fun s W=>jO W0 pc gs A c fs z s W∧b_ W q 0 (.pointer (bY pc 0))∧q<W.heap.size∧q≠gs) (yh fs k s (.mk op n un nm ar)) W e w'→P e w' from fun e w' h=>hP▸h);clear hP;generalize hW1:W.alloc (.cells #[bU op,bU n,bV un,bV nm,bW B ar k2] 47)=W1;have hBw:Below W W W1:=(by rw[← hW1];exact cS _);have HB:=aa hBw;have EK:=aa (h1.bZ hBw);have HX:=aa (And.intro h2 (And.intro h3 h4));show Calls prog 132 #[.agg #[bU op,bU n,bV un,bV nm,bW B ar k2],.pointer (bY q 0)] W P;by_cases ho:op=3
  ·subst ho;have hnn:¬findF fs nm<0:=by
    have h9:((3:Int)==3&&decide (findF fs nm<0))=false:=hk;intro h8;rw[decide_eq_true h8]at h9;cases h9
   obtain⟨jy,hf2⟩:=qu hnn;have uk:=aa (fun W' (hb:Below W1 W1 W')=>qd A c fs nm W' ((EK.o.bZ hb).sq.mono fun _ _ _=>trivial) aH);rw[jy]at uk;have HT:=aa (fun W' (hb:Below W1 W1 W')=>ih s (findF fs nm).toNat W' hf2 (EK.o.bZ hb));have HTP:=aa (show yh fs k s (.mk 3 n un nm ar)=DW fs k s (findF fs nm).toNat from rfl);generalize DW fs k s (findF fs nm).toNat=r at HT HTP;generalize (findF fs nm).toNat=j at uk HT;have c1:b_ W1 W 0 (bU 3)∧b_ W1 W 3 (bV nm)∧b_ W1 q 0 (.pointer (bY pc 0))∧b_ W1 pc 0 (bW A fs c):=
    ⟨by rw[← hW1];simp[go_sem],by rw[← hW1];simp[go_sem],(hBw.cell (p:=bY q 0) h3).trans h2,EK.o.lY⟩
   have hq1:q<W1.heap.size:=aaD h3 hBw.size;have hp1:W.heap.size<W1:=bE;have HS:=aa (fun W' (hb:Below W1 W1 W')=>And.intro ((hb.cell (p:=bY W 0) hp1).trans c1.1) (And.intro ((hb.cell (p:=bY W 3) hp1).trans c1.2.1) (And.intro ((hb.cell (p:=bY q 0) hq1).trans c1.2.2.1) ((hb.cell (p:=bY pc 0) EK.o.sK).trans c1.2.2.2))));(have DR:W.heap.size≠gs:=by have:=h1.AL;omega);have HN:=aa (And.intro hp1 (And.intro hq1 DR));clear ih hk DR hnn jy hf2 h1 h2 h3 h4 hI hy hBw hp1;go_enter func132,ntmps132;go_wp2_with fail;refine dz (S:=fun w'=>b_ w' W 0 (bU 3)∧b_ w' W 3 (bV nm)∧b_ w' q 0 (.pointer (bY pc 0))∧b_ w' pc 0 (bW A fs c)) [0,1,2,3,4,5,9,6,10,7,8,13,14] [(0,false),(1,false),(2,false),(3,false),(4,false),(5,false),(9,false),(6,false),(10,false),(7,false),(8,false),(11,true),(12,true),(13,false),(14,false)] ah ah au rfl ah (c1) ?_;(iterate 11 refine hwr ?_);refine hwt fun K hK=>?_;go_simp;refine(uk.o _ dV.jq).mono ?_;rintro e w2 ⟨rfl,hb2⟩;have dI:=aa (dV.jq.trans (hb2.mono dV.jq.size));have c2:=HS.o w2 dI.o;clear hb2;refine hK.o _ _ (c2) ?_;clear hK K;refine hwt fun K hK=>?_;go_simp;refine(HT.o w2 dI.o).mono ?_;rintro e w3 ⟨rfl,Wx,hk3⟩;have SR:=aa (And.intro Wx hk3);have K3:=aa (fun b (hb:b<W1.heap.size) (hn:b≠gs)=>hk3.2 b (aaD hb dI.o.size) hn);clear Wx hk3;refine hK.o _ _ (⟨(World.cell?_of_block (a:=bY W 0) (K3.o _ HN.o.1 HN.o.2.2)).trans c2.1,(World.cell?_of_block (a:=bY W 3) (K3.o _ HN.o.1 HN.o.2.2)).trans c2.2.1,(World.cell?_of_block (a:=bY q 0) (K3.o _ HN.o.2.1 HX.o.2.2)).trans c2.2.2.1,SR.o.1.lY⟩) ?_;clear hK K;refine hwr ?_;refine hwr ?_;refine fA ?_;(try go_frame);clear c1 c2;go_wp2_with fail;refine HP.o (.returned (.bool r.1)) _ ?_;rw[HTP.o];have hk:=(cB.cA HB.o).trans ((cB.cA dI.o).trans SR.o.2);exact⟨rfl,⟨SR.o.1,(World.cell?_of_block (a:=bY q 0) (hk.2 q HX.o.2.1 HX.o.2.2)).trans HX.o.1,aaD HX.o.2.1 hk.1,HX.o.2.2⟩,hk⟩
  have h3':(op==3)=false:=bD;have HTP:=aa (show yh fs k s (.mk op n un nm ar)=(false,s)from if_neg ho);have c0:b_ W1 W 0 (bU op):=aA;clear ih hk h1 h2 h3 h4 hI hy hBw;go_enter func132,ntmps132;go_wp2_with fail;go_quiet (fail);have hdr:Below W1 W1 (W1.drewN nq):=⟨rfl,rfl,rfl,aaB _,fun _ _=>rfl⟩;have HU:=aa (HB.o.trans (hdr.mono HB.o.size));have NU:=aa (EK.o.bZ hdr);generalize W1.drewN nq=wa at HU NU;clear c0 hdr;go_wp2_with fail;refine HP.o (.returned (.bool false)) _ ?_;rw[HTP.o];exact⟨rfl,⟨NU.o,(HU.o.cell (p:=bY q 0) HX.o.2.1).trans HX.o.1,aaD HX.o.2.1 HU.o.size,HX.o.2.2⟩,cB.cA HU.o⟩
def I7 (fs:List cK):Prop:=∀ f∈fs,dy (jG fs) f.body=false∧cE f.body≤1000000
theorem SS (W0:World) (pc gs:Nat) (A:Option Addr) (c:Nat) (fs:List cK) (hl:fs.length≤1000000000) (hbo:I7 fs) (k:Nat):∀ (z:Nat) (st:List Int) (i:Nat) (w:World),z<k→i<fs.length→jO W0 pc gs A c fs z st w→Calls prog 81 #[.pointer (bY pc 0),bU i] w (kA (fun b=>b≠gs) (jO W0 pc gs A c fs z) (DW fs k st i) w):=by
 induction k with
 |zero=>intro z st i w hz;omega
 |succ k ih=>
  intro z st i w hz hi hC;generalize hP:kA (fun b=>b≠gs) (jO W0 pc gs A c fs z) (DW fs (k+1) st i) w=P;have HP:=aa (show ∀ e w',kA (fun b=>b≠gs) (jO W0 pc gs A c fs z) (DW fs (k+1) st i) w e w'→P e w' from fun e w' h=>hP▸h);clear hP;have hb1:Below w w (w.alloc (.cells #[.pointer (bY pc 0)] 153)):=cS _;have hC1:=hC.bZ hb1;have k0:=heap_alloc_new w (.cells #[.pointer (bY pc 0)] 153);(have hqg:w.heap.size≠gs:=by have:=hC.AL;omega);have hqz:w.heap.size<(w.alloc (.cells #[.pointer (bY pc 0)] 153)).heap.size:=aJ;have gW:=aa hb1;have c0:(w.alloc (.cells #[.pointer (bY pc 0)] 153)).cell? (bY w 0)=some (.pointer (bY pc 0)):=cN.cell k0 0;have c1:=hC1.CE;have c2:=hC1.lY;have c3:=hC1.state hi;have f3:=hC1.blk.frozen i;have EK:=aa hC1;have hiz:(i:Int)<(fs.length:Int):=af;clear hb1 k0 hC hC1;by_cases hv:st.getD i 0=0
  (·have HTH:=aa (NY (k:=k) hi hv);have HZ:=aa (CD (st:=st) (i:=i) (by rw[EK.o.len];exact hi) hv 1 ak);rw[hv]at c3;obtain⟨b,o,cs,hA,Yc,hbl,ey,cT⟩:=EK.o.sq.get hi;subst hA;have HBO:=aa (hbo _ (aan hi));have tX:=aa (SQ W0 pc gs w (bY b o) c (z - 1) k fs hl (by have:=HZ.o;have:=EK.o.zs;omega) fun st i W hi h=>ih (z - 1) st i W (by have:=HZ.o;have:=EK.o.zs;omega) hi h);generalize fs[i]=f at ey HBO HTH;obtain⟨FA,fd,es,e,_,hie⟩:=ey;have HX:=aa hie;obtain⟨op,n,un,nm,A2,c4,ar,_,hes,_⟩:=hie.parts;subst hes e;have g2:=cT 2 _ rfl;have g3:=cT 3 _ rfl;have g4:=cT 4 _ rfl;have g5:=cT 5 _ rfl;have g6:=cT 6 _ rfl;obtain⟨NZ,hK2⟩:=EK.o.set i 1 ak;have NZ:jO W0 pc gs (bY b o) c fs (z - 1) (st.set i 1) _:=⟨NZ.lY,NZ.CE,NZ.blk,NZ.len,NZ.sK,NZ.AL,NZ.ne,NZ.sq,by have:=HZ.o;have:=EK.o.zs;omega,NZ.low⟩;generalize hw1:w.alloc (.cells #[.pointer (bY pc 0)] 153)=w1 at*;have K2:=fun(b:Nat) (j:Nat) (h1:b<w1.heap.size) (h2:b≠gs)=>World.cell?_of_block (a:=bY b j) (hK2.2 b h1 h2);have hz2:(w1.setCell (bY gs i) (bU 1)).heap.size=w1.heap.size:=bF;have HK:=aa ((cB.cA gW.o).trans hK2);have vH:=aa (Et tX.o (fun x hx y hy=>iY hx hy) 1000000 aac f.body HBO.o.1 HBO.o.2 (st.set i 1) _ _ ⟨NZ,(K2 w 0 hqz hqg).trans c0,by rw[hz2];exact hqz,hqg⟩ (HX.o.keep hK2));have d0:=(K2 w 0 hqz hqg).trans c0;have d1:=NZ.CE;have d2:=NZ.lY;have e2:=(K2 b (o+i*7+2) hbl Yc).trans g2;have e3:=(K2 b (o+i*7+3) hbl Yc).trans g3;have e4:=(K2 b (o+i*7+4) hbl Yc).trans g4;have e5:=(K2 b (o+i*7+5) hbl Yc).trans g5;have e6:=(K2 b (o+i*7+6) hbl Yc).trans g6;have D:=aa (And.intro d0 (And.intro d1 (And.intro d2 (And.intro e2 (And.intro e3 (And.intro e4 (And.intro e5 e6)))))));generalize js (yh fs k) (st.set i 1) f.body=r at vH HTH;clear K2 hK2 NZ tX HX HBO HZ g2 g3 g4 g5 g6 cT ih hbo hz2 d0 d1 d2 e2 e3 e4 e5 e6 hqz;go_enter func81,ntmps81;go_upto_region 4 with fail;generalize (w1.setCell (bY gs i) (bU 1))=w2 at D vH HK ⊢;obtain⟨d0,d1,d2,e2,e3,e4,e5,e6⟩:=D.o;clear D c0 c1 c2 c3 f3;go_wp2_with fail;refine vH.o.mono ?_;rintro e w3 ⟨rfl,⟨hC3,Wx,hz3,_⟩,hK3⟩;have c1:=hC3.CE;have c3:=hC3.state hi;have f3:=hC3.blk.frozen i;generalize r.2.getD i 0=v3 at c3;have HC3:=aa hC3;have Bc:=aa (HK.o.trans hK3);clear hC3 hK3 hz3 d0 d1 d2 e2 e3 e4 e5 e6;go_wp2_with fail;refine HP.o (.returned (.bool r.1)) _ ?_;rw[HTH.o];have h9:=HC3.o.set i 2 ak;exact⟨rfl,h9.1.less (by have:=h9.1.zs;omega),Bc.o.trans h9.2⟩);have HTH:=aa (I5 (fs:=fs) (k:=k) hv);generalize st.getD i 0=v at c3 hv HTH;have YK:(v != 0)=true:=(by simpa using hv);clear hv f3 ih hbo hqg hqz;go_enter func81,ntmps81;go_wp2_with fail;refine HP.o (.returned (.bool (v==1))) _ ?_;rw[HTH.o];exact⟨rfl,EK.o,cB.cA gW.o⟩
end
def nG (fs:List cK):List cK→Int
 |[]=>0
 |f :: l=>if nE fs f=0 then nG fs l else nE fs f
def Gg (fs:List cK):Bool:=(anyM (fun st i=>DW fs (fs.length+1) st i) (aaw fs.length 0) (aav fs.length)).1
def gO (fs:List cK):Int:=if 100<fs.length then 6 else if nG fs fs=0 then(if Gg fs then 23 else 0)else nG fs fs
structure yl (fs:List cK):Prop where
 one:∀ f∈fs,Nw f∧cE f.body≤1000000∧∀ q∈f.params,cQ q.unit=true
 find:∀ (i:Nat) (h:i<fs.length),findF fs fs[i].name=(i:Int)
theorem I8 {fs l:List cK} {k:Nat} (hk:k<l.length):nG fs (l.drop k)=if nE fs l[k]=0 then nG fs (l.drop (k+1))else nE fs l[k]:=by
 rw[aah hk];rfl
theorem pE {fs:List cK}:∀ {l:List cK},nG fs l=0→∀ f∈l,nE fs f=0
 |[],_,f,hf=>by simp at hf
 |a :: l,h,f,hf=>by
  unfold nG at h;by_cases h0:nE fs a=0
  ·rw[if_pos h0]at h;rcases aas.1 hf with rfl|hf
   (·exact h0);exact pE h f hf
  rw[if_neg h0]at h;exact absurd h h0
theorem sL {fs:List cK} {f:cK} (h:nE fs f=0):qs f.params f.params.length=false∧dy (iU f.params) f.body=false∧dy (jG fs) f.body=false∧dy (jX fs) f.body=false:=by
 unfold nE at h;cases h1:qs f.params f.params.length with
 |true=>rw[h1]at h;simp at h
 |false=>
  cases h2:dy (iU f.params) f.body with
  |true=>rw[h1,h2]at h;simp at h
  |false=>
   cases h3:dy (jG fs) f.body with
   |true=>rw[h1,h2,h3]at h;simp at h
   |false=>
    cases h4:dy (jX fs) f.body with
    |true=>rw[h1,h2,h3,h4]at h;simp at h
    |false=>exact⟨rfl,rfl,rfl,rfl⟩
theorem uV (A:Option Addr) (c:Nat) (fs:List cK) (w:World) (hs:Sq gR w Any A fs) (hF:yl fs) (hl:fs.length≤1000000):Calls prog 36 #[bW A fs c] w (qc (gO fs) w):=by
 generalize hP:qc (gO fs) w=P;have HP:=aa (show ∀ e w',qc (gO fs) w e w'→P e w' from fun e w' h=>hP▸h);clear hP;have HS:=aa hs;have HF:=aa hF;clear hs hF;by_cases SU:100<fs.length
 (·have HR:=aa (show gO fs=6 from if_pos SU);have h1:decide ((fs.length:Int)>100)=true:=aq;have h2:decide ((100:Int)<(fs.length:Int))=true:=aq;clear SU;go_enter func36,ntmps36;go_wp2;exact HP.o (.returned (bU 6)) _ ⟨by rw[HR.o],aaf _ _⟩);have HR:=aa (show gO fs=if nG fs fs=0 then(if Gg fs then 23 else 0)else nG fs fs from if_neg SU);have h2:decide ((100:Int)<(fs.length:Int))=false:=aq;go_enter func36,ntmps36;go_wp2;go_loopw [12] (fun s12 wr=>∃ k:Nat,k≤fs.length∧s12=bU (k:Int)∧Hid (Below w w wr)∧Hid (nG fs fs=nG fs (fs.drop k))) (fun s12 _=>fs.length - (intOf s12).toNat);(case atStart=>exact⟨0,aaG _,rfl,aa (aaf _ _),aa (by rw[List.drop_zero])⟩);obtain⟨k,hk,rfl,HB,HA⟩:=hrel;by_cases hlt:k<fs.length
 ·have HC:=aa (LV A c fs wr k (HS.o.bZ HB.o) af hlt (HF.o.one _ (aan hlt)).1 (HF.o.find k hlt) (HF.o.one _ (aan hlt)).2.1 (HF.o.one _ (aan hlt)).2.2);have rS:=aa (HA.o.trans (I8 hlt));generalize nE fs fs[k]=z at HC rS;go_wp2_with fail;refine HC.o.mono ?_;rintro e w2 ⟨rfl,hb2⟩;have dI:=aa (HB.o.trans (hb2.mono HB.o.size));clear hb2 HC HA;by_cases hz:z=0
  (·subst hz;have zD:=aa (rS.o.trans (if_pos rfl));clear rS;go_wp2;go_roundw;exact⟨k+1,by omega,rfl,dI,zD⟩;simp[intOf];omega);have hz1:(z != 0)=true:=(by simpa using hz);have zD:=aa (rS.o.trans (if_neg hz));have v_:=aa (show gO fs=z by rw[HR.o,zD.o,if_neg hz]);clear rS zD hz;go_wp2;exact HP.o (.returned (bU z)) _ ⟨by rw[v_.o],dI.o⟩
 (obtain rfl:k=fs.length:=by omega);have h0:nG fs fs=0:=(by rw[HA.o,List.drop_length];rfl);have v_:=aa (show gO fs=if Gg fs then 23 else 0 by rw[HR.o,if_pos h0]);have KF:=aa (show I7 fs from fun f hf=>⟨(sL (pE h0 f hf)).2.2.1,(HF.o.one f hf).2.1⟩);have hmk:∀ W:World,(Instr.makeSlice 38 (bU (fs.length:Int)) (bU (fs.length:Int))).run prog W= .ok (bW (bY W 0) fs fs) (W.alloc (.cells ((aaw fs.length (bU 0)).toArray) 3)):=fun W=>by
  have:=run_make_row' (P:=prog) 38 3 (bU 0) 8 underlying38 wj rfl .i64 .i64 fs.length af af W;rw[tK]at this;exact this
 have hC:Hid (jO wr (wr+1) wr A c fs fs.length (aaw fs.length 0) ((wr.alloc (.cells ((aaw fs.length (bU 0)).toArray) 3)).alloc (.cells #[bW A fs c,bW (bY wr 0) fs fs] 155))):=by
  have hb1:Below wr wr (wr.alloc (.cells ((aaw fs.length (bU 0)).toArray) 3)):=cS _;have hb2:=hb1.alloc ai (.cells #[bW A fs c,bW (bY wr 0) fs fs] 155);have k2:=heap_alloc_new (wr.alloc (.cells ((aaw fs.length (bU 0)).toArray) 3)) (.cells #[bW A fs c,bW (bY wr 0) fs fs] 155);rw[show(wr.alloc (.cells ((aaw fs.length (bU 0)).toArray) 3)).heap.size=wr.heap.size+1 by simp]at k2;refine aa ⟨cN.cell k2 0,cN.cell k2 1,?_,by simp,by rw[aaI,aaI];omega,by rw[aaI,aaI];omega,by omega,?_,?_,hb2⟩
  (·rw[List.map_replicate];exact(heap_alloc_old _ _ ai).trans (heap_alloc_new wr _))
  (·exact((HS.o.bZ HB.o).mono (S':=fun b=>b≠wr.heap.size) fun b hb _=>by omega).bZ hb2);exact aaC List.countP_le_length ai
 have hsz:(wr.alloc (.cells ((aaw fs.length (bU 0)).toArray) 3)).heap.size=wr.heap.size+1:=ai;have har:(aaw fs.length (bU 0)).toArray=aad fs.length (bU 0):=ai;rw[har]at hC;clear HA h0 HR har;go_wp2_with fail;generalize ((wr.alloc (.cells (aad fs.length (bU 0)) 3)).alloc (.cells #[bW A fs c,bW (bY wr 0) fs fs] 155))=wx at hC ⊢;clear hmk hsz;obtain⟨p,hp⟩:∃ p:List Int→Nat→Bool×List Int,p=fun st i=>DW fs (fs.length+1) st i:=⟨_,rfl⟩;have HT:=aa (fun(k:Nat) (st:List Int) (W:World) (hk:k<fs.length) (h:jO wr (wr+1) wr A c fs fs.length st W)=>
  (hp▸SS wr (wr+1) wr A c fs af KF.o (fs.length+1) fs.length st k W af hk h:Calls prog 81 #[.pointer (bY (wr+1) 0),bU k] W (kA (fun b=>b≠wr.heap.size) (jO wr (wr+1) wr A c fs fs.length) (p st k) W)))
 have HY:=aa (show Gg fs=(anyM p (aaw fs.length 0) (aav fs.length)).1 by rw[hp];rfl);clear hp KF;go_loopw [6,30] (fun v6 ZM wq=>∃ (k:Nat) (st:List Int),k≤fs.length∧ZM=bU (k:Int)∧Hid (jO wr (wr+1) wr A c fs fs.length st wq)∧Hid (Gg fs=(anyM p st ((aav fs.length).drop k)).1)) (fun _ ZM _=>fs.length - (intOf ZM).toNat);(case atStart=>exact⟨0,_,aaG _,rfl,hC,aa (by rw[List.drop_zero];exact HY.o)⟩);clear hC HY;obtain⟨k,st,hk,rfl,HC,HA⟩:=hrel;by_cases hlt:k<fs.length
 ·(have hdr:(aav fs.length).drop k=k :: (aav fs.length).drop (k+1):=by rw[aah (by simpa using hlt),List.getElem_range]);rw[hdr]at HA;have qV:=aa (HT.o k st _ hlt HC.o);clear hdr;go_wp2_with fail;refine qV.o.mono ?_;rintro e w3 ⟨rfl,h3,_⟩;have HC3:=aa h3;clear h3 HC qV;cases hb:(p st k).1 with
  |true=>
   have HR3:=aa (show gO fs=23 by rw[v_.o,HA.o,qa hb];rfl);clear hb HA v_;go_wp2;exact HP.o (.returned (bU 23)) _ ⟨by rw[HR3.o],HB.o.trans (HC3.o.low.mono HB.o.size)⟩
  |false=>
   have zD:=aa (show Gg fs=(anyM p (p st k).2 ((aav fs.length).drop (k+1))).1 by rw[HA.o,ow hb]);clear hb HA;go_wp2;go_roundw;exact⟨k+1,_,by omega,rfl,HC3,zD⟩;simp[intOf];omega
 (obtain rfl:k=fs.length:=by omega);have HR3:=aa (show gO fs=0 by rw[v_.o,HA.o,List.drop_eq_nil_of_le ai];rfl);clear HA v_;go_wp2;exact HP.o (.returned (bU 0)) _ ⟨by rw[HR3.o],HB.o.trans (HC.o.low.mono HB.o.size)⟩
section
mutual
def fS (fs:List cK):cw→List Nat
 | .mk op _ _ nm l=>(if op=3 then[(findF fs nm).toNat]else[])++uW fs l
def uW (fs:List cK):List cw→List Nat
 |[]=>[]
 |y :: l=>fS fs y++uW fs l
end
theorem CF {fs:List cK} {l:List cw} {j:Nat} (h:j∈uW fs l):∃ y∈l,j∈fS fs y:=by
 induction l with
 |nil=>unfold uW at h;simp at h
 |cons y l ih=>
  unfold uW at h;rcases aar.1 h with h|h
  (·exact⟨y,by simp,h⟩);obtain⟨z,hz,h2⟩:=ih h;exact⟨z,by simp[hz],h2⟩
theorem ym {fs:List cK} {l:List cw} {y:cw} (hy:y∈l) {j:Nat} (h:j∈fS fs y):j∈uW fs l:=by
 induction l with
 |nil=>simp at hy
 |cons z l ih=>
  unfold uW;rcases aas.1 hy with rfl|hy
  (·exact List.mem_append_left _ h);exact List.mem_append_right _ (ih hy)
structure qW (fs:List cK) (st:List Int):Prop where
 len:st.length=fs.length
 vals:∀ i,st.getD i 0=0∨st.getD i 0=1∨st.getD i 0=2
 Ph:∃ r:Nat→Nat,∀ (i:Nat) (f:cK),st.getD i 0=2→fs[i]? =some f→∀ j∈fS fs f.body,st.getD j 0=2∧r j<r i
def CG (fs:List cK) (st st':List Int):Prop:=qW fs st'∧(∀ i,st.getD i 0=2→st'.getD i 0=2)∧(∀ i,st'.getD i 0=1↔st.getD i 0=1)
theorem CG.refl {fs:List cK} {st:List Int} (h:qW fs st):CG fs st st:=⟨h,fun _ h=>h,fun _=>Iff.rfl⟩
theorem CG.trans {fs:List cK} {a b c:List Int} (h:CG fs a b) (k:CG fs b c):CG fs a c:=⟨k.1,fun i hi=>k.2.1 i (h.2.1 i hi),fun i=>(k.2.2 i).trans (h.2.2 i)⟩
theorem gU {st:List Int} {i j:Nat} {z:Int} (hi:i<st.length):(st.set i z).getD j 0=if j=i then z else st.getD j 0:=by
 rw[aam,aam,List.getElem?_set];by_cases h:i=j
 (·subst h;simp[hi]);rw[if_neg h,if_neg (fun e=>h e.symm)]
theorem EL {fs:List cK} {z:Nat} {α:Type} {p:List Int→α→Bool×List Int} {D:α→List Nat} (l:List α) (h:∀ y∈l,∀ s,qW fs s→zeros s≤z→(p s y).1=false→CG fs s (p s y).2∧zeros (p s y).2≤z∧∀ j∈D y,(p s y).2.getD j 0=2):∀ s,qW fs s→zeros s≤z→(anyM p s l).1=false→CG fs s (anyM p s l).2∧zeros (anyM p s l).2≤z∧∀ y∈l,∀ j∈D y,(anyM p s l).2.getD j 0=2:=by
 induction l with
 |nil=>intro s hs hz _;exact⟨.refl hs,hz,fun y hy=>by simp at hy⟩
 |cons y l ih=>
  intro s hs hz hn;cases hb:(p s y).1 with
  |true=>rw[qa hb]at hn;cases hn
  |false=>
   rw[ow hb]at hn ⊢;obtain⟨h1,hz1,h2⟩:=h y ai s hs hz hb;obtain⟨h3,hz3,h4⟩:=ih (fun z hz=>h z (by simp[hz])) _ h1.1 hz1 hn;refine⟨h1.trans h3,hz3,fun z hz j hj=>?_⟩;rcases aas.1 hz with rfl|hz
   (·exact h3.2.1 j (h2 j hj));exact h4 z hz j hj
theorem LY {fs:List cK} {z:Nat} {p:List Int→cw→Bool×List Int} (h:∀ (op n:Int) (u nm:ByteArray) (l:List cw) (s:List Int),jG fs (.mk op n u nm l)=false→qW fs s→zeros s≤z→(p s (.mk op n u nm l)).1=false→CG fs s (p s (.mk op n u nm l)).2∧zeros (p s (.mk op n u nm l)).2≤z∧(op=3→(p s (.mk op n u nm l)).2.getD (findF fs nm).toNat 0=2)) (N:Nat):∀ (x:cw),cE x≤N→dy (jG fs) x=false→∀ s,qW fs s→zeros s≤z→(js p s x).1=false→CG fs s (js p s x).2∧zeros (js p s x).2≤z∧∀ j∈fS fs x,(js p s x).2.getD j 0=2:=by
 induction N with
 |zero=>intro x hx;have:=dB x;omega
 |succ N ih=>
  intro x hx hu s hs hz hn;cases x with
  |mk op n u nm l=>
   have xH:cE (.mk op n u nm l)=1+cR l:=aM;cases hb:(p s (.mk op n u nm l)).1 with
   |true=>rw[qN hb]at hn;cases hn
   |false=>
    rw[o9 hb]at hn ⊢;obtain⟨h1,hz1,h2⟩:=h op n u nm l s (ia hu) hs hz hb;obtain⟨h3,hz3,h4⟩:=EL (D:=fS fs) l (fun y hy s hs hz hn=>ih y aN (iY hu hy) s hs hz hn) _ h1.1 hz1 hn;refine⟨h1.trans h3,hz3,fun j hj=>?_⟩;unfold fS at hj;rcases aar.1 hj with hj|hj
    ·by_cases ho:op=3
     (·rw[if_pos ho]at hj;rw[List.mem_singleton.1 hj];exact h3.2.1 _ (h2 ho));rw[if_neg ho]at hj;simp at hj
    obtain⟨y,hy,h5⟩:=CF hj;exact h4 y hy j h5
theorem SV {l:List Nat} {x:Nat} (h:x∈l):x≤l.sum:=by
 induction l with
 |nil=>simp at h
 |cons a l ih=>
  rw[List.sum_cons];rcases aas.1 h with rfl|h
  (·omega);have:=ih h;omega
theorem SY {fs:List cK} (hb:I7 fs) (k:Nat):∀ (st:List Int) (i:Nat),i<fs.length→qW fs st→zeros st<k→(DW fs k st i).1=false→CG fs st (DW fs k st i).2∧(DW fs k st i).2.getD i 0=2:=by
 induction k with
 |zero=>intro st i _ _ hz;omega
 |succ k ih=>
  intro st i hi hr hz hn;by_cases h0:st.getD i 0=0
  ·rw[NY hi h0]at hn ⊢;have hil:i<st.length:=(by rw[hr.len];exact hi);have hz1:=CD hil h0 1 ak;have hb1:=hb _ (aan hi);have hr1:qW fs (st.set i 1):=by
    refine⟨by rw[List.length_set];exact hr.len,fun j=>?_,?_⟩
    ·rw[gU hil];split
     (·exact .inr (.inl rfl));exact hr.vals j
    obtain⟨r,h⟩:=hr.Ph;refine⟨r,fun a f ha hf j hj=>?_⟩;rw[gU hil]at ha;split at ha
    (·exact absurd ha ak);obtain⟨h2,h3⟩:=h a f ha hf j hj;refine⟨?_,h3⟩;rw[gU hil,if_neg (fun e=>by rw[e,h0]at h2;exact absurd h2 ak)];exact h2
   have hw:=LY (fs:=fs) (z:=zeros (st.set i 1)) (p:=yh fs k) (fun op n u nm l s hu hs hz hn=>by
    unfold yh at hn ⊢;by_cases ho:op=3
    ·have e:(cw.mk op n u nm l).op=3:=ho;rw[if_pos e]at hn ⊢;subst ho;have hf:¬findF fs nm<0:=by
      intro h8;have h9:((3:Int)==3&&decide (findF fs nm<0))=false:=hu;rw[decide_eq_true h8]at h9;cases h9
     obtain⟨h1,h2⟩:=ih s _ (qu hf).2 hs af hn;exact⟨h1,(EJ fs s.length _ k s _ ⟨rfl,hz⟩).2,fun _=>h2⟩
    have e:¬(cw.mk op n u nm l).op=3:=ho;rw[if_neg e]at hn ⊢;exact⟨.refl hs,hz,fun h=>absurd h ho⟩) (cE fs[i].body) fs[i].body aac hb1.1 (st.set i 1) hr1 aac hn
   obtain⟨⟨w1,w2,w3⟩,_,w4⟩:=hw;generalize (js (yh fs k) (st.set i 1) fs[i].body).2=s at w1 w2 w3 w4 ⊢;have si:i<s.length:=(by rw[w1.len];exact hi);have hsi:s.getD i 0=1:=(w3 i).2 (by rw[gU hil,if_pos rfl]);(have hback:∀ j,j≠i→(st.set i 1).getD j 0=st.getD j 0:=fun j hj=>by rw[gU hil,if_neg hj]);refine⟨⟨⟨by rw[List.length_set];exact w1.len,fun j=>?_,?_⟩,fun j hj=>?_,fun j=>?_⟩,by rw[gU si,if_pos rfl]⟩
   ·rw[gU si];split
    (·exact .inr (.inr rfl));exact w1.vals j
   ·obtain⟨r,h⟩:=w1.Ph;refine⟨fun j=>if j=i then((fS fs fs[i].body).map r).sum+1 else r j,fun a f ha hf j hj=>?_⟩;rw[gU si]at ha;by_cases hai:a=i
    (·subst hai;rw[List.getElem?_eq_getElem hi]at hf;injection hf with hf;subst hf;have h2:=w4 j hj;(have hji:j≠a:=fun e=>by rw[e,hsi]at h2;exact absurd h2 ak);rw[gU si,if_neg hji];refine⟨h2,?_⟩;simp only[if_neg hji,if_true];have:=SV (List.mem_map.2 ⟨j,hj,rfl⟩:r j∈(fS fs fs[a].body).map r);omega);rw[if_neg hai]at ha;obtain⟨h2,h3⟩:=h a f ha hf j hj;(have hji:j≠i:=fun e=>by rw[e,hsi]at h2;exact absurd h2 ak);rw[gU si,if_neg hji];simp only[if_neg hji,if_neg hai];exact⟨h2,h3⟩
   ·rw[gU si];split
    (·rfl);(next hji=>exact w2 j (by rw[hback j hji];exact hj))
   rw[gU si];by_cases hji:j=i
   (·rw[if_pos hji,hji,h0];exact⟨fun h=>absurd h ak,fun h=>absurd h ak⟩);rw[if_neg hji];rw[w3 j,hback j hji]
  rw[I5 h0]at hn ⊢;refine⟨.refl hr,?_⟩;rcases hr.vals i with h|h|h
  (·exact absurd h h0)
  (·rw[h]at hn;cases hn);exact h
end
end
open Go Go.RowKit Go.Proofs
section
def Pj (P:Program) (t e k:Nat):Prop:=P.underlying t=some (.slice e)∧0<k∧∃ i z bytes,P.info? e=some i∧i.zero=some z∧i.size=k∧i.bytes=bytes∧z.cells.size=k∧bytes≤1000
theorem Pj.of {P:Program} {t e k:Nat} (z:Value) (bytes:Nat) (hu:P.underlying t=some (.slice e)) (hi:(P.info? e).map (fun i=>(i.zero,i.size,i.bytes))=some (some z,k,bytes)) (hz:z.cells.size=k) (hb:bytes≤1000) (hk:0<k):Pj P t e k:=by
 obtain⟨i0,AY,hz0,hz1,hz2⟩:=info_parts hi;exact⟨hu,hk,i0,z,bytes,AY,hz0,hz1,hz2,hz,hb⟩
def rU {α:Type} (R:Rel α) (w:World) (S:Nat→Prop) (A:Option Addr) (xs:List α):Prop:=
 ∃ css:List (List Value),css.length=xs.length∧Rows w Any A R.k css∧∀ (j:Nat) cs x,css[j]? =some cs→xs[j]? =some x→R.is w S cs x
section
variable {α:Type} {R:Rel α} {w w':World} {S S':Nat→Prop} {A:Option Addr} {v:Value} {xs ys:List α} {B T t:Nat} {P:Program}
theorem Sq.ext (h:Sq R w S A xs):rU R w S A xs:=by
 obtain⟨css,h1,h2,h3⟩:=h;exact⟨css,h1,h2.mono fun _ _ _=>trivial,h3⟩
theorem rU.mono (h:rU R w S A xs) (hs:∀ b,b<w.heap.size→S b→S' b):rU R w S' A xs:=by
 obtain⟨css,h1,h2,h3⟩:=h;exact⟨css,h1,h2,fun j cs x hc hx=>R.mono (h3 j cs x hc hx) hs⟩
theorem rU.bZ (h:rU R w S A xs) (hb:Below w w w'):rU R w' S A xs:=by
 obtain⟨css,h1,h2,h3⟩:=h;exact⟨css,h1,h2.keep (cB.cA hb),fun j cs x hc hx=>R.keep (h3 j cs x hc hx) (cB.cA hb)⟩
theorem rU.lit {cs:List Value} {x:α} (h:R.is w S cs x) (e:TypeId):rU R (w.alloc (.cells cs.toArray e)) S (bY w 0) [x]:=by
 refine⟨[cs],rfl,fun _=>⟨w.heap.size,0,rfl,trivial,by simp,fun j c hj i u hu=>?_⟩,fun j c y hc hy=>?_⟩
 (·(have hj0:j=0:=by have:=(List.getElem?_eq_some_iff.1 hj).1;simpa using this);subst hj0;have hc:cs=c:=bS;subst hc;rw[cell_of_row _ _ _ _ _ _ (heap_alloc_new w _)];simpa using hu);(have hj0:j=0:=by have:=(List.getElem?_eq_some_iff.1 hc).1;simpa using this);subst hj0;have h1:cs=c:=(by simpa using hc);have h2:x=y:=(by simpa using hy);subst h1 h2;exact R.keep h (cB.cA (cS _))
theorem rU.jH {cs:List Value} {x:α} {n:Nat} (h:R.is w S cs x) (e:TypeId) (hn:n=w.heap.size):rU R (w.alloc (.cells cs.toArray e)) S (bY n 0) [x]:=hn▸rU.lit h e
theorem LZ {css:List (List Value)} {k:Nat} (h:Rows w Any A k css) (hk:∀ cs∈css,cs.length=k) (hk0:0<k):Reads w w k A css.length css.flatten:=by
 refine⟨sH hk,fun hn=>?_⟩;obtain⟨b,off,e,_,hlt,hc⟩:=h (fun e=>by subst e;simp at hn);refine⟨_,e,hlt,fun j u hu=>?_⟩;have hj:j<css.flatten.length:=(List.getElem?_eq_some_iff.1 hu).1;rw[sH hk]at hj;have hq:j / k<css.length:=Nat.div_lt_of_lt_mul (by rw[Nat.mul_comm];exact hj);have hr:=Nat.mod_lt j hk0;have cT:=hk _ (aan hq);have hfu:=mC hk (j / k) (j % k) css[j / k] (css[j / k][j % k]' af) (List.getElem?_eq_getElem hq) (List.getElem?_eq_getElem af);have hdm:j / k*k+j % k=j:=(by rw[Nat.mul_comm];exact Nat.div_add_mod j k);rw[hdm,hu]at hfu;injection hfu with hfu;have:=hc (j / k) _ (List.getElem?_eq_getElem hq) (j % k) _ (List.getElem?_eq_getElem af);rw[← hfu,Nat.add_assoc,hdm]at this;rw[Addr.add_lit];exact this
structure Grown (R:Rel α) (T B:Nat) (w:World) (S:Nat→Prop) (v:Value) (xs:List α) (w':World) (v':Value):Prop where
 own:dM R T B w' S v' xs
 turn:w.grownBy w' v.ownBlock
 row:v'.ownBlock=v.ownBlock∨v'.ownBlock=some w.heap.size
theorem zP {o:Oper} {a:Act} {K:Act→World→Prop} {Q:Exit→Act→World→Prop} (s x:Operand) (tt:TypeId) (htt:tt=t) (ho:o.op= .call {callee:= .builtin .append,args:=#[s,x],argTypes:=#[tt,tt]}) (I:Pj P t T R.k) (hO:dM R T B w S v xs) (hs:a.eval s=v) (A:Option Addr) (m c:Nat) (hx:a.eval x=bW A m c) (hm:ys.length=m) (hN:rU R w (fun b=>S b∧some b≠v.ownBlock) A ys) (hl:xs.length+m≤100000000000) (hB:B≤w.heap.size) {zs:List α} (hzs:xs++ys=zs) {n:Nat} (hn:xs.length+m=n) (hK:∀ A' c' w',n≤c'→Hid (Grown R T B w S v zs w' (bW A' n c'))→K (a.put o.dst (bW A' n c')) w'):Oper.wp P o a w K Q:=by
 subst htt hm hzs hn;obtain⟨hu,hk0,i0,z,bytes,AY,hz0,hz1,hz2,hz3,hb⟩:=I;obtain⟨css,h1,h2,h3,h4⟩:=hO;obtain⟨QY,n1,n2,n3⟩:=hN;have hnk:∀ cs∈QY,cs.length=R.k:=fun cs hcs=>by
  obtain⟨j,hj,rfl⟩:=List.getElem_of_mem hcs;exact R.len (n3 j _ _ (List.getElem?_eq_getElem hj) (List.getElem?_eq_getElem af))
 have hr:=LZ n2 hnk hk0;rw[n1]at hr;refine pM w s x _ ho B T i0 z R.k bytes hu AY hz0 hz1 hz2 hz3 hk0 v xs.length css.flatten hs h2 w A ys.length c QY.flatten hx hr (fun u hu=>?_) aH ?_ hB fun v' w' g1 g2 g3=>?_
 (·obtain⟨cs,hcs,hu⟩:=List.mem_flatten.1 hu;obtain⟨j,hj,rfl⟩:=List.getElem_of_mem hcs;exact R.one (n3 j _ _ (List.getElem?_eq_getElem hj) (List.getElem?_eq_getElem af)) u hu)
 (·exact aaC (Nat.mul_le_mul hl hb) ak);obtain⟨A',c',e,hc,_⟩:=iL g1;subst e;exact hK A' c' w' hc (aa ⟨dM.more h1 h3 h4 n1 n3 rfl rfl g1 g2 g3,g2,g3⟩)
theorem dD {ops:Array Oper} {rest:List Oper} {o:Oper} {a:Act} {Q:Exit→Act→World→Prop} (hgd:o.guard=none) (s x:Operand) (tt:TypeId) (htt:tt=t) (ho:o.op= .call {callee:= .builtin .append,args:=#[s,x],argTypes:=#[tt,tt]})
 (I:Pj P t T R.k) (hO:dM R T B w S v xs) (hs:a.eval s=v) (A:Option Addr) (m c:Nat) (hx:a.eval x=bW A m c) (hm:ys.length=m) (hN:rU R w (fun b=>S b∧some b≠v.ownBlock) A ys)
 (hl:xs.length+m≤100000000000) (hB:B≤w.heap.size) {zs:List α} (hzs:xs++ys=zs) {n:Nat} (hn:xs.length+m=n)
 (hK:∀ A' c' w',n≤c'→Hid (Grown R T B w S v zs w' (bW A' n c'))→wpList P ops Q rest (a.put o.dst (bW A' n c')) w'):wpList P ops Q (o :: rest) a w:=
 wpList_plain hgd fun _ hKK=>zP s x tt htt ho I hO hs A m c hx hm hN hl hB hzs hn fun A' c' w' h1 h2=>hKK _ _ (hK A' c' w' h1 h2)
theorem kG {ops:Array Oper} {o:Oper} {a:Act} {K:Act→World→Prop} {Q:Exit→Act→World→Prop} {E:Prop} (hgd:o.guard=none) (s x:Operand) (tt:TypeId) (htt:tt=t) (ho:o.op= .call {callee:= .builtin .append,args:=#[s,x],argTypes:=#[tt,tt]}) (I:Pj P t T R.k) (hO:dM R T B w S v xs) (hs:a.eval s=v) (A:Option Addr) (m c:Nat) (hx:a.eval x=bW A m c) (hm:ys.length=m) (hN:rU R w (fun b=>S b∧some b≠v.ownBlock) A ys) (hl:xs.length+m≤100000000000) (hB:B≤w.heap.size) {zs:List α} (hzs:xs++ys=zs) {n:Nat} (hn:xs.length+m=n) (hK:∀ A' c' w',n≤c'→Hid (Grown R T B w S v zs w' (bW A' n c'))→K (a.put o.dst (bW A' n c')) w'):if Region.wanted o (yielded ops a.tmps)=true then Oper.wp P o a w K Q else E:=by
 have hw:Region.wanted o (yielded ops a.tmps)=true:=(by simp[Region.wanted,hgd]);rw[if_pos hw];exact zP s x tt htt ho I hO hs A m c hx hm hN hl hB hzs hn hK
theorem Grown.bZ {xs':List α} {v':Value} (h:Grown R T B w S v xs w' v') (hO:dM R T B w S v xs') (hB:B≤w.heap.size):Below B w w':=
 (aaf B w).grown h.turn hB fun g hg=>(hO.lt g hg).1
end
theorem uX:Pj prog 120 9 1:= .of (bV ByteArray.empty) 16 underlying120 ah rfl ak ak
end
theorem Wy:Pj prog 26 49 7:= .of (.agg #[bV ByteArray.empty,bV ByteArray.empty,bU 0,bU 0,bV ByteArray.empty,bV ByteArray.empty,cD]) 104 underlying26 ah ah ak ak
theorem N0:Pj prog 45 47 5:= .of (.agg #[bU 0,bU 0,bV ByteArray.empty,bV ByteArray.empty,cD]) 72 underlying45 ah ah ak ak
end Go.Proofs.YtfppbjfnllhgcaaGreat
namespace Sh
open Kb
section
mutual
def BdE (N:Nat):cw→Prop
 | .mk _ _ _ name l=>name.size≤N∧BdL N l
def BdL (N:Nat):List cw→Prop
 |[]=>True
 |x :: l=>BdE N x∧BdL N l
end
theorem BdL.mem {N:Nat}:∀ {l:List cw},BdL N l→∀ x∈l,BdE N x
 |[],_,x,hx=>by cases hx
 |y :: l,h,x,hx=>by
  unfold BdL at h;rcases aas.1 hx with rfl|hx
  (·exact h.1);exact BdL.mem h.2 x hx
end
end Sh
namespace Go.Proofs.YtfppbjfnllhgcaaGreat
section
open Go Go.RowKit Go.Proofs Sh Kb
section
section
variable {w w' w'':World} {row:Option Nat}
theorem L1 (w:World) (row:Option Nat):w.grownBy w row:=⟨rfl,rfl,rfl,aaB _,fun _ _ _=>rfl⟩
theorem zQ (h:w.grownBy w' row) (k:w'.grownBy w'' row):w.grownBy w'' row:=
 ⟨k.os.trans h.os,k.tape.trans h.tape,k.output.trans h.output,aaC h.size k.size,fun b hb hr=>(k.block b (aaD hb h.size) hr).trans (h.block b hb hr)⟩
theorem CH (h:Below w w w') (row:Option Nat):w.grownBy w' row:=⟨h.os,h.tape,h.output,h.size,fun b hb _=>h.block b hb⟩
theorem Pk (h:w.grownBy w' row) {b:Nat} {t:TypeId} {cs:List Value} (hr:some b≠row) (k:cN w b t cs):cN w' b t cs:=(h.block b k.lt hr).trans k
end
section
variable {α:Type} {R:Rel α} {w w' w'':World} {S:Nat→Prop} {v:Value} {xs:List α} {B T:Nat} {row r2:Option Nat}
theorem L4 {e size n:Nat} {us:List Value} (h:w.ownsRow B e size v n us) (hg:w.grownBy w' row) (hr:∀ r,row=some r→r<B):w'.ownsRow B e size v n us:=by
 refine⟨h.1,?_⟩;rcases h.2 with h1|⟨g,cap,cur,rfl,hB,hb,rest⟩
 (·exact .inl h1);refine .inr ⟨g,cap,cur,rfl,hB,?_,rest⟩;rw[hg.block g (Array.getElem?_eq_some_iff.1 hb).1 (fun e=>by have:=hr g e.symm;omega)];exact hb
theorem dM.grown (h:dM R T B w S v xs) (hg:w.grownBy w' row) (hr:∀ r,row=some r→r<B) (hS:∀ b,S b→some b≠row):dM R T B w' S v xs:=by
 obtain⟨css,h1,h2,h3,h4⟩:=h;exact⟨css,h1,L4 h2 hg hr,h3,fun j cs x hc hx=>R.keep (h4 j cs x hc hx) (cB.fB hg fun b q=>hS b q.1)⟩
theorem CI (h:w.grownBy w' row) (k:w'.grownBy w'' r2) (hr:∀ g,r2=some g→w.heap.size≤g):w.grownBy w'' row:=
 ⟨k.os.trans h.os,k.tape.trans h.tape,k.output.trans h.output,aaC h.size k.size,fun b hb hb2=>(k.block b (aaD hb h.size) (fun e=>by have:=hr b e.symm;omega)).trans (h.block b hb hb2)⟩
theorem nW (h:w.grownBy w' row) {b i:Nat} (hb:w.heap.size≤b) (u:Value):w.grownBy (w'.setCell (bY b i) u) row:=
 ⟨h.os,h.tape,h.output,by simpa [World.setCell]using h.size,fun c hc hr=>(aae w' (bY b i) u c (by show c≠b;omega)).trans (h.block c hc hr)⟩
theorem zR (h:w.grownBy w' row) (o:Obj):w.grownBy (w'.alloc o) row:=CI h (CH (cS o) none) (fun g e=>by cases e)
end
structure Clo (N g:Nat) (lb:Array Value) (Rd:Nat→Prop) (row:Option Nat) (J:List ByteArray→World→Prop) (f:Int→ByteArray→ByteArray) (lg:Int→ByteArray→List ByteArray):Prop where
 enters:∀ args w,(callFunc g args).run prog w= .ok (.enter g args) w
 rd:∀ r,row=some r→Rd r
 keep:∀ {l:List ByteArray} {W W':World},J l W→W.heap.size≤W'→(∀ r,Rd r→W'.heap[r]? =W.heap[r]?)→J l W'
 lt:∀ {l:List ByteArray} {W:World},J l W→∀ r,Rd r→r<W.heap.size
 call:∀ (op:Int) (s:ByteArray) (l:List ByteArray) (W:World),s.size≤N→J l W→Calls prog g (#[bU op,bV s]++lb) W fun e W'=>e= .returned (bV (f op s))∧J (l++lg op s) W'∧W.grownBy W' row
structure CJ (row:Option Nat) (J:List ByteArray→World→Prop) (w:World) (px:Nat) (cs:List Value) (v:Value) (xs:List cw) (ls:List ByteArray) (wr:World):Prop where
 b1:cN wr px 47 cs
 b2:cN wr (px+1) 47 [bU 0,bU 0,bV ⟨#[]⟩,bV ⟨#[]⟩,cD]
 own:dM dh 47 (px+2) wr (fun b=>px+2≤b) v xs
 j:J ls wr
 turn:w.grownBy wr row
 size:px+2≤wr.heap.size
section
variable {row:Option Nat} {J:List ByteArray→World→Prop} {w wr w3 w4:World} {px:Nat} {cs cs':List Value} {v v':Value} {xs:List cw} {y:cw} {ls ls':List ByteArray} {o o2:Obj}
theorem CJ.ready (h:CJ row J w px cs v xs ls wr) (hpx:px=w.heap.size) (hr:∀ r,row=some r→r<px) (h3:(wr.alloc o).grownBy w3 row):dM dh 47 (px+2) (w3.alloc o2) (fun b=>px+2≤b) v xs:=
 (((h.own.bZ (cS o)).grown h3 (fun r q=>by have:=hr r q;omega) (fun b hb q=>by have:=hr b q.symm;omega)).bZ (cS o2))
theorem CJ.more {N g:Nat} {lb:Array Value} {Rd:Nat→Prop} {f:Int→ByteArray→ByteArray} {lg:Int→ByteArray→List ByteArray} (C:Clo N g lb Rd row J f lg) (h:CJ row J w px cs v xs ls wr) (hpx:px=w.heap.size) (hr:∀ r,Rd r→r<px) (h3:(wr.alloc o).grownBy w3 row) (hj:J ls' w3) (G:Grown dh 47 (px+2) (w3.alloc o2) (fun b=>px+2≤b) v (xs++[y]) w4 v'):CJ row J w px cs v' (xs++[y]) ls' w4:=by
 have hr0:∀ r,row=some r→r<px:=fun r q=>hr r (C.rd r q);have hO:=h.ready (o2:=o2) hpx hr0 h3;have hv:∀ g,v.ownBlock=some g→px+2≤g:=fun g e=>(hO.lt g e).1;have hs:=h.size;have h3s:=h3.size;have h4s:=G.turn.size;simp at h3s h4s;have hA:wr.grownBy (w3.alloc o2) row:=zR (zQ (zR (L1 wr row) o) h3) o2;(have hne:∀ b,px≤b→some b≠row:=fun b hb e=>by have:=hr0 b e.symm;omega);have blk:∀ {b:Nat} {t:TypeId} {c:List Value},px≤b→b<px+2→cN wr b t c→cN w4 b t c:=fun {b t c} h1 h2 k=>
  (G.turn.block b aq (fun e=>by have:=hv b e.symm;omega)).trans (Pk hA (hne b h1) k)
 refine⟨blk aac af h.b1,blk af af h.b2,G.own,?_,?_,by omega⟩
 (·exact C.keep (C.keep hj (by simp:w3.heap.size≤(w3.alloc o2).heap.size) fun r hr2=>heap_alloc_old _ _ (by have:=hr r hr2;omega)) aq fun r hr2=>G.turn.block r (by have:=hr r hr2;simp;omega) (fun e=>by have:=hv r e.symm;have:=hr r hr2;omega));(exact CI (zQ h.turn hA) G.turn fun g e=>by have:=hv g e;omega)
theorem nX {S:Nat→Prop} {b i:Nat} {u:Value} (h:cB S w wr) (hb:¬S b):cB S w (wr.setCell (bY b i) u):=
 ⟨by simpa [World.setCell]using h.1,fun c hc hs=>(aae wr (bY b i) u c (fun e=>hb (by have e2:c=b:=e;exact e2▸hs))).trans (h.2 c hc hs)⟩
theorem CJ.fin {N g:Nat} {lb:Array Value} {Rd:Nat→Prop} {f:Int→ByteArray→ByteArray} {lg:Int→ByteArray→List ByteArray} (C:Clo N g lb Rd row J f lg) {A:Option Addr} {n c:Nat} (h:CJ row J w px cs (bW A n c) xs ls wr) (hpx:px=w.heap.size) (hr:∀ r,Rd r→r<px) (u0 u1 u2 u3 u4 u5:Value):
 let wF:=(((((wr.setCell (bY px 4) u0).setCell (bY (px+1) 0) u1).setCell (bY (px+1) 1) u2).setCell (bY (px+1) 2) u3).setCell (bY (px+1) 3) u4).setCell (bY (px+1) 4) u5
 Sq dh wF (fun b=>w.heap.size≤b) A xs∧J ls wF∧w.grownBy wF row:=by
 intro wF
 have K:∀ {S:Nat→Prop},(¬S px)→(¬S (px+1))→cB S wr wF:=fun h1 h2=>nX (nX (nX (nX (nX (nX (cB.refl _ _) h1) h2) h2) h2) h2) h2
 have hs:=h.size
 refine⟨?_,?_,?_⟩
 ·
  have h1:=(h.own.sq (S:=fun b=>px+2≤b) fun b _ hb=>hb).keep (K af af);(exact h1.mono fun b _ hb=>by omega)
 ·
  have h2:=K (S:=fun b=>b<px) af af;exact C.keep h.j h2.1 fun r hr2=>h2.2 r (by have:=hr r hr2;omega) (hr r hr2)
 ·
  exact nW (nW (nW (nW (nW (nW h.turn af _) af _) af _) af _) af _) af _
end
theorem Pm {x y:cw} {op n:Int} {unit name:ByteArray} {args:List cw} (hx:x= .mk op n unit name args) (hy:y∈args):iJ y<iJ x:=by
 subst hx;have h:∀ (l:List cw),y∈l→iJ y≤ir l:=by
  intro l;induction l with
  |nil=>intro h;cases h
  |cons a l ih=>
   intro h;unfold ir;rcases aas.1 h with rfl|h
   (·omega);have:=ih h;omega
 have:=h args hy;show iJ y<1+ir args;omega
end
end
open Go Go.RowKit Bg Go.Proofs Sh Kb
section
structure cV where
 x:cw
 nodes:Int
 levels:Int
 full:Bool
def kH:cV:=⟨.mk 0 0 ⟨#[]⟩ ⟨#[]⟩ [],0,0,true⟩
def pO (y:cV):Prop:=0≤y.nodes∧y.nodes≤200∧0≤y.levels∧y.levels≤20
def tY (op n:Int) (un nm:ByteArray):Int→Int→List cw→List cV→cV
 |a,b,acc,[]=>⟨.mk op n un nm acc,a,b,false⟩
 |a,b,acc,y :: l=>if y.full||decide (200<a+y.nodes)||decide (20<max b (y.levels+1))then kH else tY op n un nm (a+y.nodes) (max b (y.levels+1)) (acc++[y.x]) l
theorem Gh {op n:Int} {un nm:ByteArray}:∀ (l:List cV) (a b:Int) (acc:List cw),0≤a→a≤200→0≤b→b≤20→(∀ y∈l,pO y)→pO (tY op n un nm a b acc l)
 |[],a,b,acc,h1,h2,h3,h4,_=>⟨h1,h2,h3,h4⟩
 |y :: l,a,b,acc,h1,h2,h3,h4,hy=>by
  unfold tY;split
  (·exact⟨by decide,by decide,by decide,by decide⟩);next h=>
  have hy1:=hy y ai;unfold pO at hy1;simp at h;exact Gh l _ _ _ af af af af fun z hz=>hy z (by simp[hz])
def eT:Rel cV where
 k:=8
 is:=fun w S cs y=>∃ es,cs=es++[bU y.nodes,bU y.levels,.bool y.full]∧cH w S es y.x
 len:=fun⟨es,h,k⟩=>by rw[h,aao,dh.len k];rfl
 one:=fun⟨es,h,k⟩ v hv=>by
  rw[h,aar]at hv;rcases hv with hv|hv
  (·exact dh.one k v hv);simp at hv;rcases hv with rfl|rfl|rfl<;>rfl
 keep:=fun⟨es,h,k2⟩ hk=>⟨es,h,k2.keep hk⟩
 mono:=fun⟨es,h,k2⟩ hs=>⟨es,h,k2.mono hs⟩
def pP (S:Nat→Prop) (r:cV) (w:World) (e:Ending) (w':World):Prop:=∃ cs,e= .returned (.agg cs.toArray)∧eT.is w' (fun b=>S b∨w.heap.size≤b) cs r∧Below w w w'
theorem I9 (w:World) (S:Nat→Prop):eT.is w S [bU 0,bU 0,bV ⟨#[]⟩,bV ⟨#[]⟩,cD,bU 0,bU 0,.bool true] kH:=
 ⟨[bU 0,bU 0,bV ⟨#[]⟩,bV ⟨#[]⟩,cD],rfl,.mk 0 0 ⟨#[]⟩ ⟨#[]⟩ none 0 [] [] rfl (fun h=>absurd rfl h) (fun j cs x h=>by simp at h)⟩
theorem CK {W:World} {p t:Nat} {cs:List Value} (h:cN W p t cs) (hl:cs.length=8) (u0 u1 u2 u3 u4 u5 u6 u7:Value):∃ wF,wF=((((((((W.setCell (bY p 0) u0).setCell (bY p 1) u1).setCell (bY p 2) u2).setCell (bY p 3) u3).setCell (bY p 4) u4).setCell (bY p 5) u5).setCell (bY p 6) u6).setCell (bY p 7) u7)∧cN wF p t [u0,u1,u2,u3,u4,u5,u6,u7]∧cB (fun b=>b≠p) W wF∧∀ B w,Below B w W→B≤p→Below B w wF:=by
 refine⟨_,rfl,?_,?_,fun B w hb hp=>?_⟩
 ·match cs,hl with
  |[c0,c1,c2,c3,c4,c5,c6,c7],_=>exact((((((((h.ez 0 _).ez 1 _).ez 2 _).ez 3 _).ez 4 _).ez 5 _).ez 6 _).ez 7 _)
 (·have k:∀ {W:World} {i:Nat} {u:Value},cB (fun b=>b≠p) W (W.setCell (bY p i) u):=kV ai;exact k.trans (k.trans (k.trans (k.trans (k.trans (k.trans (k.trans k)))))));(repeat refine Below.setCell ?_ (by exact hp) _);exact hb
theorem put5 {W:World} {p t:Nat} {c0 c1 c2 c3 c4 c5 c6 c7:Value} (h:cN W p t [c0,c1,c2,c3,c4,c5,c6,c7]) (u0 u1 u2 u3 u4:Value):∃ wF,wF=(((((W.setCell (bY p 0) u0).setCell (bY p 1) u1).setCell (bY p 2) u2).setCell (bY p 3) u3).setCell (bY p 4) u4)∧cN wF p t [u0,u1,u2,u3,u4,c5,c6,c7]∧cB (fun b=>b≠p) W wF∧∀ B w,Below B w W→B≤p→Below B w wF:=by
 refine⟨_,rfl,?_,?_,fun B w hb hp=>?_⟩
 (·exact(((((h.ez 0 _).ez 1 _).ez 2 _).ez 3 _).ez 4 _))
 (·have k:∀ {W:World} {i:Nat} {u:Value},cB (fun b=>b≠p) W (W.setCell (bY p i) u):=kV ai;exact k.trans (k.trans (k.trans (k.trans k))));(repeat refine Below.setCell ?_ (by exact hp) _);exact hb
structure I_ (S:Nat→Prop) (w:World) (op n:Int) (un nm:ByteArray) (v:Value) (acc:List cw) (a b:Int) (wr:World):Prop where
 b0:cN wr w 47 [bU op,bU n,bV un,bV nm,v]
 b1:cN wr (w+1) 176 [bU 0,bU 0,bV ⟨#[]⟩,bV ⟨#[]⟩,cD,bU 0,bU 0,.bool false]
 b2:cN wr (w+1+1) 176 [bU 0,bU 0,bV ⟨#[]⟩,bV ⟨#[]⟩,cD,bU a,bU b,.bool false]
 own:dM dh 47 (w+1+1+1) wr (fun b=>S b∧b<w.heap.size) v acc
 low:Below w w wr
 size:w.heap.size+1+1+1≤wr
section
variable {S:Nat→Prop} {w wr:World} {op n:Int} {un nm:ByteArray} {v:Value} {acc:List cw} {a b a' b':Int}
theorem I_.tick (h:I_ S w op n un nm v acc a b wr) (o:Obj):I_ S w op n un nm v acc a' b' (((wr.setCell (bY (w+1+1) 5) (bU a')).setCell (bY (w+1+1) 6) (bU b')).alloc o):=by
 have hz:((wr.setCell (bY (w+1+1) 5) (bU a')).setCell (bY (w+1+1) 6) (bU b')).heap.size=wr.heap.size:=bF;have hs:=h.size;have k:cB (fun b=>b≠w.heap.size+1+1) wr ((wr.setCell (bY (w+1+1) 5) (bU a')).setCell (bY (w+1+1) 6) (bU b')):=(kV ai).trans (kV ai);have blk:∀ {g t:Nat} {cs:List Value},g≠w.heap.size+1+1→g<wr.heap.size→cN wr g t cs→cN (((wr.setCell (bY (w+1+1) 5) (bU a')).setCell (bY (w+1+1) 6) (bU b')).alloc o) g t cs:=fun h1 h2 h3=>(heap_alloc_old _ _ (by rw[hz];exact h2)).trans ((k.2 _ h2 h1).trans h3);refine⟨blk af af h.b0,blk af af h.b1,(heap_alloc_old _ _ (by rw[hz];omega)).trans ((h.b2.ez 5 _).ez 6 _),?_,?_,by rw[aaI,hz];omega⟩
 (·have hg:wr.grownBy ((wr.setCell (bY (w+1+1) 5) (bU a')).setCell (bY (w+1+1) 6) (bU b')) (some (w+1+1)):=⟨rfl,rfl,rfl,by rw[hz];omega,fun b hb hr=>k.2 b hb fun e=>hr (by rw[e])⟩;exact(h.own.grown hg (fun r e=>by injection e with e;omega) (fun b hb e=>by injection e with e;omega)).bZ (cS o));exact((h.low.setCell (by show w.heap.size≤w.heap.size+1+1;omega) _).setCell (by show w.heap.size≤w.heap.size+1+1;omega) _).alloc (by rw[hz];omega) o
theorem I_.more {o:Obj} {w9:World} {v':Value} {ys:List cw} (h:I_ S w op n un nm v acc a b wr) (G:Grown dh 47 (w+1+1+1) (wr.alloc o) (fun b=>S b∧b<w.heap.size) v ys w9 v'):I_ S w op n un nm v' ys a b (w9.setCell (bY w 4) v'):=by
 have hs:=h.size;have ha:(wr.alloc o).heap.size=wr.heap.size+1:=ai;have hb:=G.bZ (h.own.bZ (cS o)) af;have hz:(w9.setCell (bY w 4) v').heap.size=w9.heap.size:=bF;have hb2:=hb.size;have k:cB (fun b=>b≠w.heap.size) w9 (w9.setCell (bY w 4) v'):=kV ai;have blk:∀ {g t:Nat} {cs:List Value},g<w.heap.size+1+1+1→cN wr g t cs→cN w9 g t cs:=fun h1 h2=>(hb.block _ h1).trans ((heap_alloc_old _ _ af).trans h2);refine⟨(blk af h.b0).ez 4 v',(k.2 _ af af).trans (blk af h.b1),(k.2 _ af af).trans (blk af h.b2),?_,?_,by rw[hz];omega⟩
 (·have hg:w9.grownBy (w9.setCell (bY w 4) v') (some w.heap.size):=⟨rfl,rfl,rfl,by rw[hz];omega,fun b hb hr=>k.2 b hb fun e=>hr (by rw[e])⟩;exact G.own.grown hg (fun r e=>by injection e with e;omega) (fun b hb e=>by injection e with e;omega));exact((h.low.alloc h.low.size o).trans (hb.mono af)).setCell (by show w.heap.size≤w;omega) _
end
theorem EN (S:Nat→Prop) (op n:Int) (un nm:ByteArray) (A0:Option Addr) (k0 c0:Nat) (A:Option Addr) (c:Nat) (l:List cV) (w:World) (hs:Sq eT w S A l) (hl:l.length≤1000000) (ho:∀ y∈l,pO y):Calls prog 149 #[.agg #[bU op,bU n,bV un,bV nm,bW A0 k0 c0],bW A l c] w (pP S (tY op n un nm 1 1 [] l) w):=by
 generalize hP:pP S (tY op n un nm 1 1 [] l) w=P;have HP:=aa (show ∀ e w',pP S (tY op n un nm 1 1 [] l) w e w'→P e w' from fun e w' h=>hP▸h);clear hP;have HS:=aa hs;have HO:=aa ho;clear hs ho;have HJ:Hid (I_ S w op n un nm cD [] 1 1 (((w.alloc (.cells #[bU op,bU n,bV un,bV nm,cD] 47)).alloc (.cells #[bU 0,bU 0,bV ⟨#[]⟩,bV ⟨#[]⟩,cD,bU 0,bU 0,.bool false] 176)).alloc (.cells #[bU 0,bU 0,bV ⟨#[]⟩,bV ⟨#[]⟩,cD,bU 1,bU 1,.bool false] 176))):=by
  have e1:(w.alloc (.cells #[bU op,bU n,bV un,bV nm,cD] 47)).heap.size=w.heap.size+1:=ai;have e2:((w.alloc (.cells #[bU op,bU n,bV un,bV nm,cD] 47)).alloc (.cells #[bU 0,bU 0,bV ⟨#[]⟩,bV ⟨#[]⟩,cD,bU 0,bU 0,.bool false] 176)).heap.size=w.heap.size+1+1:=ai;have k1:=heap_alloc_new (w.alloc (.cells #[bU op,bU n,bV un,bV nm,cD] 47)) (.cells #[bU 0,bU 0,bV ⟨#[]⟩,bV ⟨#[]⟩,cD,bU 0,bU 0,.bool false] 176);have k2:=heap_alloc_new ((w.alloc (.cells #[bU op,bU n,bV un,bV nm,cD] 47)).alloc (.cells #[bU 0,bU 0,bV ⟨#[]⟩,bV ⟨#[]⟩,cD,bU 0,bU 0,.bool false] 176)) (.cells #[bU 0,bU 0,bV ⟨#[]⟩,bV ⟨#[]⟩,cD,bU 1,bU 1,.bool false] 176);rw[e1]at k1;rw[e2]at k2;exact aa ⟨(heap_alloc_old _ _ (by rw[e2];omega)).trans ((heap_alloc_old _ _ (by rw[e1];omega)).trans (heap_alloc_new w _)),(heap_alloc_old _ _ (by rw[e2];omega)).trans k1,k2,dM.qK,((cS _).alloc (by rw[e1];omega) _).alloc (by rw[e2];omega) _,by rw[aaI,e2];omega⟩
 go_enter func149,ntmps149;go_upto_region 3 with fail;generalize (((w.alloc (.cells #[bU op,bU n,bV un,bV nm,cD] 47)).alloc (.cells #[bU 0,bU 0,bV ⟨#[]⟩,bV ⟨#[]⟩,cD,bU 0,bU 0,.bool false] 176)).alloc (.cells #[bU 0,bU 0,bV ⟨#[]⟩,bV ⟨#[]⟩,cD,bU 1,bU 1,.bool false] 176))=w3 at HJ ⊢;go_wp2;go_loopw [12] (fun s12 wr=>∃ (k:Nat) (v:Value) (acc:List cw) (a b:Int),k≤l.length∧s12=bU (k:Int)∧Hid (I_ S w op n un nm v acc a b wr)∧Hid (acc.length=k)∧Hid (0≤a∧a≤200∧0≤b∧b≤20)∧Hid (tY op n un nm 1 1 [] l=tY op n un nm a b acc (l.drop k))) (fun s12 _=>l.length - (intOf s12).toNat);(case atStart=>exact⟨0,_,[],1,1,aaG _,rfl,HJ,aa rfl,aa ak,aa (by rw[List.drop_zero])⟩);clear HJ;obtain⟨k,v,acc,a,b,hk,rfl,HJ,gX,lM,HA⟩:=hrel;by_cases hlt:k<l.length
 ·obtain⟨bl,o,cs,hA,_,hbl,ey,CL⟩:=HS.o.get hlt;have cT:∀ i v,cs[i]? =some v→b_ wr bl (o+k*8+i) v:=fun i v h=>(HJ.o.low.cell (p:=bY bl (o+k*8+i)) hbl).trans (CL i v h);clear CL;subst hA;have hyo:=HO.o _ (aan hlt);have hdr:=aah hlt;generalize l[k]=y at ey hyo hdr;obtain⟨es,e,hie⟩:=ey;have HX:=aa hie;obtain⟨eU,yn,eV,eW,A2,c2,ar,qX,hes,_⟩:=hie.parts;subst hes e;obtain⟨yx,yN,yL,yF⟩:=y;have hyx2:yx= .mk eU yn eV eW ar:=qX;subst hyx2;obtain⟨y1,y2,y3,y4⟩:=hyo;have rS:=aa (HA.o.trans (by rw[hdr];rfl:_=if yF||decide (200<a+yN)||decide (20<max b (yL+1))then kH else tY op n un nm (a+yN) (max b (yL+1)) (acc++[.mk eU yn eV eW ar]) (l.drop (k+1))));have g0:b_ wr bl (o+k*8) (.int .i64 eU):=cT 0 _ rfl;have g1:b_ wr bl (o+k*8+1) (.int .i64 yn):=cT 1 _ rfl;have g2:b_ wr bl (o+k*8+2) (bV eV):=cT 2 _ rfl;have g3:b_ wr bl (o+k*8+3) (bV eW):=cT 3 _ rfl;have g4:b_ wr bl (o+k*8+4) (bW A2 ar c2):=cT 4 _ rfl;have g5:b_ wr bl (o+k*8+5) (.int .i64 yN):=cT 5 _ rfl;have g6:b_ wr bl (o+k*8+6) (.int .i64 yL):=cT 6 _ rfl;have g7:b_ wr bl (o+k*8+7) (.bool yF):=cT 7 _ rfl;have z2:=HJ.o.b2.cell;have zf:=HJ.o.b2.frozen;have hsz:=HJ.o.size;have hp2:w.heap.size+1+1<wr:=af;obtain⟨x1,x2,x3,x4⟩:=lM.o;have y1:0≤yN:=y1;have y2:yN≤200:=y2;have y3:0≤yL:=y3;have y4:yL≤20:=y4;clear cT hdr qX HA;go_upto_region 8 with fail;have L5:=aa (HJ.o.tick (a':=a+yN) (b':=max b (yL+1)) (.cells #[.int .i64 eU,.int .i64 yn,bV eV,bV eW,bW A2 ar c2,.int .i64 yN,.int .i64 yL,.bool yF] 176));have HK7:=aa (heap_alloc_new ((wr.setCell (bY (w+1+1) 5) (.int .i64 (a+yN))).setCell (bY (w+1+1) 6) (.int .i64 (max b (yL+1)))) (.cells #[.int .i64 eU,.int .i64 yn,bV eV,bV eW,bW A2 ar c2,.int .i64 yN,.int .i64 yL,.bool yF] 176));rw[show((wr.setCell (bY (w+1+1) 5) (.int .i64 (a+yN))).setCell (bY (w+1+1) 6) (.int .i64 (max b (yL+1)))).heap.size=wr.heap.size by simp[World.setCell]]at HK7;generalize (((wr.setCell (bY (w+1+1) 5) (.int .i64 (a+yN))).setCell (bY (w+1+1) 6) (.int .i64 (max b (yL+1)))).alloc (.cells #[.int .i64 eU,.int .i64 yn,bV eV,bV eW,bW A2 ar c2,.int .i64 yN,.int .i64 yL,.bool yF] 176))=w6 at L5 HK7 ⊢;have HK7:Hid (cN w6 wr 176 [.int .i64 eU,.int .i64 yn,bV eV,bV eW,bW A2 ar c2,.int .i64 yN,.int .i64 yL,.bool yF]):=HK7;clear g0 g1 g2 g3 g4 g5 g6 g7 z2 zf;have z2:=L5.o.b2.cell;have z7:=HK7.o.cell;have hle:a+yN≤400:=af;have hlm:max b (yL+1)≤21:=af;have hge:0≤a+yN:=af;have IJ:0≤max b (yL+1):=af;generalize a+yN=a' at*;generalize max b (yL+1)=b' at*;have Wz:=aa (fun(hf:(yF||decide (200<a')||decide (20<b'))=true) (wF:World) (h:cN wF (w+1) 176 [.int .i64 0,.int .i64 0,bV ⟨#[]⟩,bV ⟨#[]⟩,cD,.int .i64 0,.int .i64 0,.bool true]) (hb:Below w w wF)=>HP.o (.returned (.agg #[.int .i64 0,.int .i64 0,bV ⟨#[]⟩,bV ⟨#[]⟩,cD,.int .i64 0,.int .i64 0,.bool true])) wF (by rw[rS.o,if_pos hf];exact⟨_,rfl,I9 _ _,hb⟩));have q1:=L5.o.b1.cell;have qf:=L5.o.b1.frozen;obtain⟨wF,hWF,hKF,_,hBF⟩:=CK L5.o.b1 rfl (.int .i64 0) (.int .i64 0) (bV ⟨#[]⟩) (bV ⟨#[]⟩) cD (.int .i64 0) (.int .i64 0) (.bool true);have HKF:=aa hKF;have HBF:=aa (hBF _ _ L5.o.low af);have rT:=aa hWF;have z:=hKF.cell;clear hKF hBF hWF;cases yF with
  |true=>
   go_wp2_with fail;rw[← rT.o];exact bodyPost_ret (by simp[results,results149,go_sem,z]) rfl (Wz.o rfl _ HKF.o HBF.o)
  |false=>
   by_cases h2:200<a'
   (·have h3:decide (200<a')=true:=aI;go_wp2_with fail;rw[← rT.o];exact bodyPost_ret (by simp[results,results149,go_sem,z]) rfl (Wz.o (by rw[h3];rfl) _ HKF.o HBF.o));have h3:decide (200<a')=false:=aI;by_cases h4:20<b'
   (·have h5:decide (20<b')=true:=(by simpa using h4);go_wp2_with fail;rw[← rT.o];exact bodyPost_ret (by simp[results,results149,go_sem,z]) rfl (Wz.o (by rw[h5];simp) _ HKF.o HBF.o));have h5:decide (20<b')=false:=(by simpa using h4);clear Wz HKF HBF rT z q1 qf;have zD:=aa (rS.o.trans (if_neg (by rw[h3,h5];simp)));(have hown:∀ b,b<w.heap.size→some b≠v.ownBlock:=fun b hb e=>by have:=(L5.o.own.lt b e.symm).1;omega);have EO:=aa ((HX.o.mono (S':=fun b=>(S b∧b<w.heap.size)∧some b≠v.ownBlock) fun b hb hS=>⟨⟨hS,hb⟩,hown b hb⟩).keep (cB.cA L5.o.low));have z0:=L5.o.b0.cell;have hs6:=L5.o.size;clear hown HX rS;go_wp2_with (at_builtin;refine dD (R:=dh) (S:=fun b=>S b∧b<w.heap.size) (xs:=acc) (ys:=[.mk eU yn eV eW ar]) (T:=47) (t:=45) (B:=w.heap.size+1+1+1) rfl (.tmp 43) (.tmp 46) 45 rfl rfl N0 (L5.o.own.bZ (cS _)) rfl _ 1 1 rfl rfl ?hN ?hl ?hB rfl (n:=acc.length+1) rfl ?_);(case hN=>exact rU.jH (R:=dh) (cs:=[_,_,_,_,_]) EO.o _ rfl);(case hl=>rw[gX.o];omega);(case hB=>omega);intro A9 c9 w9 DX HG;have HJ9:=aa (L5.o.more HG.o);have lW:=HG.o.bZ (L5.o.own.bZ (cS _)) aJ;have k9:cN w9 w 47 [bU op,bU n,bV un,bV nm,v]:=(lW.block _ af).trans ((heap_alloc_old _ _ af).trans L5.o.b0);have c9':=k9.cell;have f9:=k9.frozen;have HLen9:=aa (show(acc++[cw.mk eU yn eV eW ar]).length=k+1 by rw[aao,gX.o];rfl);have HBd9:=aa (show 0≤a'∧a'≤200∧0≤b'∧b'≤20 by omega);clear HG lW k9 L5 EO z0 z2 z7 HJ gX lM;go_wp2;go_roundw;exact⟨k+1,_,acc++[.mk eU yn eV eW ar],a',b',by omega,rfl,HJ9,HLen9,HBd9,zD⟩;simp[intOf];omega
 (obtain rfl:k=l.length:=by omega);have HR:=aa (show tY op n un nm 1 1 [] l=⟨.mk op n un nm acc,a,b,false⟩ by rw[HA.o,List.drop_length];rfl);obtain⟨Av,cv,hv,_,_⟩:=HJ.o.own.slice;subst hv;have hs:=HJ.o.size;obtain⟨wz,IX,hkz,kz,hbz⟩:=put5 HJ.o.b2 (.int .i64 op) (.int .i64 n) (bV un) (bV nm) (bW Av acc cv);have k1z:cN wz (w+1) 176 [.int .i64 0,.int .i64 0,bV ⟨#[]⟩,bV ⟨#[]⟩,cD,.int .i64 0,.int .i64 0,.bool false]:=(kz.2 _ af af).trans HJ.o.b1;obtain⟨wF,qw,qx,kF,pQ⟩:=CK k1z rfl (.int .i64 op) (.int .i64 n) (bV un) (bV nm) (bW Av acc cv) (.int .i64 a) (.int .i64 b) (.bool false);have HE:=aa (show pP S (tY op n un nm 1 1 [] l) w (.returned (.agg #[.int .i64 op,.int .i64 n,bV un,bV nm,bW Av acc cv,.int .i64 a,.int .i64 b,.bool false])) wF by
  rw[HR.o];have hq:Sq dh wr (fun b=>S b∧b<w.heap.size∨w.heap.size+1+1+1≤b) Av acc:=(HJ.o.own.mono (S':=fun b=>S b∧b<w.heap.size∨w.heap.size+1+1+1≤b) fun b _ h=> .inl h).sq fun b _ h=> .inr h;have hk:cB (fun b=>S b∧b<w.heap.size∨w.heap.size+1+1+1≤b) wr wF:=cB.trans ⟨kz.1,fun b hb h=>kz.2 b hb af⟩ ⟨kF.1,fun b hb h=>kF.2 b hb af⟩;exact⟨_,rfl,⟨[_,_,_,_,_],rfl,.of ((hq.keep hk).mono fun b _ h=>h.elim (fun h=> .inl h.1) fun h=> .inr af)⟩,pQ _ _ (hbz _ _ HJ.o.low af) af⟩)
 have z0:=HJ.o.b0.cell;have z2:=HJ.o.b2.cell;have f2:=HJ.o.b2.frozen;have zz:=hkz.cell;have z1:=k1z.cell;have f1:=k1z.frozen;have zF:=qx.cell;have HWZ:=aa IX;have rT:=aa qw;have hp1:w.heap.size+1<wr:=af;have hp2:w.heap.size+1+1<wr:=af;clear IX qw hkz kz hbz k1z qx kF pQ HA HR HJ gX lM HS HO;go_upto_region 13 with fail;rw[← HWZ.o];clear z0 z2 f2;go_wp2_with fail;rw[← rT.o];exact bodyPost_ret (by simp[results,results149,go_sem,zF]) rfl (HP.o _ _ HE.o)
end
end Go.Proofs.YtfppbjfnllhgcaaGreat
