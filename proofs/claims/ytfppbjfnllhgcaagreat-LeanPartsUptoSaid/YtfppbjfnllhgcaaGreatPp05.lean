/- Parts of the proof, packed (Read to CallJ); each theorem bears its own conditions. -/
import Derived.Test.YtfppbjfnllhgcaaGreatPp04
set_option linter.unusedVariables false
set_option linter.unusedSimpArgs false
set_option maxRecDepth 100000
set_option maxHeartbeats 8000000
open Go.Proofs.Tryz
open Go.Lib renaming hid → aa
open Nat renaming le_refl→aaB,lt_of_lt_of_le→aaD,le_trans→aaC,zero_le→aaG
open Go.World renaming size_alloc→aaI
open List renaming getElem_mem→aan,length_append→aao,getD_eq_getElem?_getD→aam,mem_cons→aas,mem_append→aar,drop_eq_getElem_cons→aah,replicate→aaw,range→aav
open Go.RowKit.Below renaming refl→aaf,heap_setCell→aae
open Array renaming replicate→aad
theorem bh {p:Prop} (h:p:=by simp[go_sem,qz]):p:=h
theorem aq {p:Prop} (h:p:=by intro d v c a w h;cases d<;>exact h):p:=h
theorem bH {p:Prop} (h:p:=by simp[World.setCell]):p:=h
theorem bF {p:Prop} (h:p:=by rw[← hW1];simp):p:=h
theorem aJ {p:Prop} (h:p:=by rw[World.size_alloc];omega):p:=h
theorem aQ {p:Prop} (h:p:=by have:=dP l y hy;omega):p:=h
namespace Go.Proofs.YtfppbjfnllhgcaaGreat
section
open Go Go.RowKit Bg Go.Proofs Sh Kb
def lS:List iP→eH→eH
 |[],a=>a
 |x :: l,a=>lS l (oK a (mJ x.word) x.exp)
theorem CN:∀ (l:List iP) (x:iP) (a:eH),lS (l++[x]) a=oK (lS l a) (mJ x.word) x.exp
 |[],x,a=>rfl
 |y :: l,x,a=>CN l x _
theorem wI:∀ (l m:List iP) (a:List Int),sj (l++m) a=match sj l a with|none=>none|some b=>sj m b
 |[],m,a=>rfl
 |x :: l,m,a=>by
  simp only[List.cons_append,sj];cases h:iH x.word with
  |none=>rfl
  |some y=>
   obtain⟨k,e⟩:=y;exact wI l m _
theorem uC {s:Bytes} {b:Nat} {e:Int} (h:dL s=some (b,e)):b<6∧(e=1∨e=3):=by
 have hm:dL s∈[some ((0:Nat),(1:Int)),some (1,1),some (1,3),some (2,1),some (3,1),some (4,1),some (5,1),none]:=by
  unfold dL;(repeat (refine Og ak ?_));decide
 rw[h]at hm;simp only[aas,List.not_mem_nil,or_false,Option.some.injEq,Prod.mk.injEq,reduceCtorEq]at hm;omega
theorem Gq {s:Bytes} {b:Nat} {e:Int} (h:iH s=some (b,e)):b<6∧(e=1∨e=3):=by
 unfold iH at h;cases hs:dL s with
 |some x=>
  rw[hs]at h;exact uC (hs.trans h)
 |none=>
  rw[hs]at h;cases s with
  |nil=>cases h
  |cons c r=>
   simp only[]at h;cases hr:dL r with
   |none=>rw[hr]at h;cases h
   |some x=>
    rw[hr]at h;simp only[]at h;split at h
    (·exact uC (hr.trans h));cases h
theorem Gr {s:Bytes} (h:(iH s).isSome=true):dM (mJ s)=true∧(mJ s).p.sign=1:=by
 unfold mJ;cases hs:dL s with
 |some x=>
  have:=sO (s:=s) (by rw[hs];rfl);unfold ja at this;rw[hs]at this;exact this
 |none=>
  simp only[Option.isSome_none,Bool.false_eq_true,if_false,h,if_true];cases s with
  |nil=>unfold iH at h;rw[hs]at h;cases h
  |cons c r=>
   rw[CF hs]at h;split at h
   ·next hc=>
    simp only[Bool.and_eq_true]at hc;have h1:=sO hc.1;unfold ja at h1;rw[if_pos hc.1]at h1;have hp:=Je hc.2.1;exact⟨Cy h1.1 (tU hp.2.1),Ja h1.1 (tU hp.2.1) h1.2 (Oc hp.1.1 hp.2.1)⟩
   cases h
theorem WH {s:Bytes} {f0 f1 f2 f3 f4 f5:Int} (hd:CE s=[f0,f1,f2,f3,f4,f5]) (h:(iH s).isSome=true) (d0 d1 d2 d3 d4 d5 z:Int):sj [⟨s,z⟩] [d0,d1,d2,d3,d4,d5]=some [d0+f0*z,d1+f1*z,d2+f2*z,d3+f3*z,d4+f4*z,d5+f5*z]∧(f0=0∨f0=1∨f0=3)∧(f1=0∨f1=1∨f1=3)∧(f2=0∨f2=1∨f2=3)∧(f3=0∨f3=1∨f3=3)∧(f4=0∨f4=1∨f4=3)∧(f5=0∨f5=1∨f5=3):=by
 cases hu:iH s with
 |none=>rw[hu]at h;cases h
 |some x=>
  obtain⟨b,e⟩:=x;obtain⟨hb,he⟩:=Gq hu;unfold CE at hd;rw[hu]at hd;simp only[sj,hu];have hc:b=0∨b=1∨b=2∨b=3∨b=4∨b=5:=af;rcases hc with rfl|rfl|rfl|rfl|rfl|rfl<;>
   (simp only[eM,List.set_cons_zero,List.set_cons_succ,List.cons.injEq,and_true]at hd
    obtain⟨rfl,rfl,rfl,rfl,rfl,rfl⟩:=hd
    refine⟨?_,?_⟩
    ·
     simp[RP]
    ·
     omega)
theorem EZ {f z:Int} (hf:f=0∨f=1∨f=3) (hz:-9≤z∧z≤9):-27≤f*z∧f*z≤27:=by
 rcases hf with rfl|rfl|rfl<;>omega
def E0 (s:Bytes):eH:=match gF s with|some l=>lS l (qy 1)|none=>zC
def Td (s:ByteArray) (w:World) (e:Ending) (w':World):Prop:=
 ∃ d0 d1 d2 d3 d4 d5 s' A n c t B m cc,e= .returned (.tuple #[.agg #[bU d0,bU d1,bU d2,bU d3,bU d4,bU d5,bU s',bW A n c,bU t,bW B m cc],bU (jI s).1])∧(jI s).2=[d0,d1,d2,d3,d4,d5]∧
  ((jI s).1=0→dQ 4000 w' s' A n t B m (E0 s.data.toList)∧dM (E0 s.data.toList)=true∧(E0 s.data.toList).p.sign=1)∧Below w w w'
def Ig (g:Nat) (A:Option Addr) (b:iN):Prop:=b.dg≠[]→∀ b' o,A=bY b' o→b'≠g
def ApF (g:Nat) (A B:Option Addr) (f:eH):Prop:=Ig g A f.p∧Ig g B f.q
theorem Ig.of_lt {M n g:Nat} {w:World} {s:Int} {A:Option Addr} {b:iN} (h:dA M w s A n b) (hg:w.heap.size≤g):Ig g A b:=fun hn b' o e=>by
 obtain⟨b2,o2,e2,hlt,_⟩:=h.2.2.2 (by simpa using hn);rw[e2]at e;injection e with e;injection e with e;omega
theorem Ig.nw {g B:Nat} {A:Option Addr} {b:iN} (h:dW B A) (hg:g<B):Ig g A b:=fun _ b' o e=>by have:=h b' o e;omega
theorem dA.gH {M n g i:Nat} {w:World} {s:Int} {A:Option Addr} {b:iN} (h:dA M w s A n b) (ha:Ig g A b) (u:Value):dA M (w.setCell (bY g i) u) s A n b:=
 ⟨h.1,h.2.1,h.2.2.1,fun hn=>by
  obtain⟨b2,o2,e2,hlt,hc⟩:=h.2.2.2 hn;have hne:=ha (by simpa using hn) b2 o2 e2;exact⟨b2,o2,e2,by simpa [World.setCell]using hlt,fun j v hv=>(World.cell?_setCell_other w (bY g i) (bY b2 (o2+j)) u (fun e=>hne (by injection e with e;exact e.symm))).trans (hc j v hv)⟩⟩
theorem dA.wJ {M n g:Nat} {w w':World} {s:Int} {A:Option Addr} {b:iN} (h:dA M w s A n b) (ha:Ig g A b) (hg:w.grownBy w' (some g)):dA M w' s A n b:=
 ⟨h.1,h.2.1,h.2.2.1,fun hn=>by
  obtain⟨b2,o2,e2,hlt,hc⟩:=h.2.2.2 hn;have hne:=ha (by simpa using hn) b2 o2 e2;exact⟨b2,o2,e2,aaD hlt hg.size,fun j v hv=>(World.cell?_of_block (a:=bY b2 (o2+j)) (hg.block b2 hlt (fun e=>hne bz))).trans (hc j v hv)⟩⟩
def Mh (xs:List iP) (w1 wr:World) (g0 g k:Nat):Prop:=
 ∃ d0 d1 d2 d3 d4 d5 sg A n c t B m cc,cN wr g 165 [bU d0,bU d1,bU d2,bU d3,bU d4,bU d5,bU sg,bW A n c,bU t,bW B m cc]∧sj (xs.take k) eM=some [d0,d1,d2,d3,d4,d5]∧dQ (4+72*k) wr sg A n t B m (lS (xs.take k) (qy 1))∧
  (dM (lS (xs.take k) (qy 1))=true∧(lS (xs.take k) (qy 1)).p.sign=1)∧(ApF g A B (lS (xs.take k) (qy 1))∧ApF g0 A B (lS (xs.take k) (qy 1)))∧Below w1 w1 wr∧
  ((-27*(k:Int)≤d0∧d0≤27*(k:Int))∧(-27*(k:Int)≤d1∧d1≤27*(k:Int))∧(-27*(k:Int)≤d2∧d2≤27*(k:Int))∧(-27*(k:Int)≤d3∧d3≤27*(k:Int))∧(-27*(k:Int)≤d4∧d4≤27*(k:Int))∧(-27*(k:Int)≤d5∧d5≤27*(k:Int)))∧w1.heap.size≤g
def zW (wo wi:World) (g k:Nat) (l m:List Int) (fr:List Value):Prop:=cN wi g 165 (((l.take k)++(m.drop k)).map iv++fr)∧wo.grownBy wi (some g)
theorem CO {w w1:World} (h:Below w w w1):Below w w ((((((((((w1.setCell (bY w 0) (bU 0)).setCell (bY w 1) (bU 0)).setCell (bY w 2) (bU 0)).setCell (bY w 3) (bU 0)).setCell (bY w 4) (bU 0)).setCell (bY w 5) (bU 0)).setCell (bY w 6) (bU 0)).setCell (bY w 7) cD).setCell (bY w 8) (bU 0)).setCell (bY w 9) cD):=
 ((((((((((h.setCell (p:=bY w 0) aac (bU 0)).setCell (p:=bY w 1) aac (bU 0)).setCell (p:=bY w 2) aac (bU 0)).setCell (p:=bY w 3) aac (bU 0)).setCell (p:=bY w 4) aac (bU 0)).setCell (p:=bY w 5) aac (bU 0)).setCell (p:=bY w 6) aac (bU 0)).setCell (p:=bY w 7) aac cD).setCell (p:=bY w 8) aac (bU 0)).setCell (p:=bY w 9) aac cD)
theorem n9 (s:ByteArray) (w:World) (hs:s.size≤maxLen):Calls prog 84 #[bV s] w (Td s w):=by
 have Le:=aa (fun W=>Me s W hs);have HIn:=aa (fun W=>SU 1 af W);have HU:Hid (jI s=match gF s.data.toList with
  |none=>(12,eM)
  |some l=>match sj l eM with
   |none=>(11,eM)
   |some d=>if dN d then(0,d)else(3,eM)):=rfl
 generalize hib:gF s.data.toList=ib at HU;go_enter func84,ntmps84;go_wp2_with fail;refine(Le.o _).mono ?_;rintro e w1 ⟨Al,cl,xs,rfl,rZ,hxs,hok,hxl,hb1⟩;have gT:=aa (show Below w w w1 from((aaf _ w).alloc aac _).trans (hb1.mono ai));obtain⟨hc1,jw⟩:=iO hb1;have SN:=hb1.size;simp only[aaI]at SN;have z0:w.heap.size<w1:=af;have HSQ:=aa rZ;have HXS:=aa hxs;have Oj:=aa hok;have HZB:=aa (show cN w1 w 165 [bU 0,bU 0,bU 0,bU 0,bU 0,bU 0,bU 0,cD,bU 0,cD]from cN.bZ (heap_alloc_new w _) hb1 ai);clear hb1 SN rZ hxs hok;rw[hib]at HXS ⊢;have HRD:=aa (fun(l:List iP) (hl:ib=some l)=>show E0 s.data.toList=lS l (qy 1)from by unfold E0;rw[hib,hl]);clear hib Le;cases ib with
 |none=>
  have Om:=aa (show jI s=(12,eM)from HU.o);go_wp2_with fail;have qz:=HZB.o.cell;exact bodyPost_ret (v:= .tuple #[.agg #[bU 0,bU 0,bU 0,bU 0,bU 0,bU 0,bU 0,cD,bU 0,cD],bU 12]) (by simp[results,results84,go_sem,qz]) rfl ⟨0,0,0,0,0,0,0,none,0,0,0,none,0,0,by rw[Om.o],by rw[Om.o];rfl,fun h=>(by rw[Om.o]at h;exact absurd h ak),CO gT.o⟩
 |some l=>
  have hxl2:=HXS.o l rfl;subst hxl2;have Jg:=gT.o.size;go_wp2_with fail;refine(HIn.o _).mono ?_;rintro e w2 ⟨sg,A,n,c,t,B,m,cc,rfl,Yv,hF2,hb2⟩;have dG:=aa (hb2);obtain⟨hc2,hf2⟩:=iO hb2;have VI:=hb2.size;have y0:w.heap.size<w2:=af;have rY:=aa Yv;have Mi:=aa hF2;have ZW:=hb2.size;clear hb2 VI Yv hF2;go_wp2_with fail;have ZX:=aa (show Mh xs w1 (w2.alloc (.cells #[bU 0,bU 0,bU 0,bU 0,bU 0,bU 0,bU sg,bW A n c,bU t,bW B m cc] 165)) w w2 0 from⟨0,0,0,0,0,0,sg,A,n,c,t,B,m,cc,jc rfl,rfl,⟨(rY.o.1.alloc _),(rY.o.2.alloc _)⟩,⟨L6 1,SS af⟩,⟨⟨Ig.of_lt rY.o.1 aac,Ig.of_lt rY.o.2 aac⟩,⟨Ig.nw Mi.o.1 z0,Ig.nw Mi.o.2 z0⟩⟩,dG.o.alloc ZW _,by omega,ZW⟩);generalize (w2.alloc (.cells #[bU 0,bU 0,bU 0,bU 0,bU 0,bU 0,bU sg,bW A n c,bU t,bW B m cc] 165))=W2 at ZX ⊢;generalize w2.heap.size=g at ZX ZW ⊢;clear hc2 hf2 hc1 jw y0 Mi rY dG;go_loopw [25] (fun v wr=>∃ k:Nat,k≤xs.length∧v=bU (k:Int)∧Hid (Mh xs w1 wr w g k)) (fun v _=>xs.length - (intOf v).toNat);(case atStart=>exact⟨0,aaG _,rfl,ZX.o⟩);clear ZX;obtain⟨k,hk,rfl,HRA⟩:=hrel;obtain⟨d0,d1,d2,d3,d4,d5,sg,A,n,c,t,B,m,cc,hblk,hdim,hfr,hrt,hap,fO,hbd,hg1⟩:=HRA.o;have hgr:=hblk.lt;have hwr:=fO.size;have V_:=aa hblk;have HDM:=aa hdim;have SL:=aa hfr;have HRT:=aa hrt;have HAP:=aa hap;have sF:=aa fO;have HZR:=aa (HZB.o.bZ fO z0);have a0:b_ wr g 0 (bU d0):=hblk.cell 0;have a1:b_ wr g 1 (bU d1):=hblk.cell 1;have a2:b_ wr g 2 (bU d2):=hblk.cell 2;have a3:b_ wr g 3 (bU d3):=hblk.cell 3;have a4:b_ wr g 4 (bU d4):=hblk.cell 4;have a5:b_ wr g 5 (bU d5):=hblk.cell 5;have a6:b_ wr g 6 (bU sg):=hblk.cell 6;have a7:b_ wr g 7 (bW A n c):=hblk.cell 7;have a8:b_ wr g 8 (bU t):=hblk.cell 8;have a9:b_ wr g 9 (bW B m cc):=hblk.cell 9;have a0f:wr.frozen? (bY g 0)=false:=hblk.frozen 0;have a1f:wr.frozen? (bY g 1)=false:=hblk.frozen 1;have a2f:wr.frozen? (bY g 2)=false:=hblk.frozen 2;have a3f:wr.frozen? (bY g 3)=false:=hblk.frozen 3;have a4f:wr.frozen? (bY g 4)=false:=hblk.frozen 4;have a5f:wr.frozen? (bY g 5)=false:=hblk.frozen 5;have a6f:wr.frozen? (bY g 6)=false:=hblk.frozen 6;have a7f:wr.frozen? (bY g 7)=false:=hblk.frozen 7;have a8f:wr.frozen? (bY g 8)=false:=hblk.frozen 8;have a9f:wr.frozen? (bY g 9)=false:=hblk.frozen 9;clear hblk hdim hfr hrt hap fO HRA;by_cases hlt:k<xs.length
  ·obtain⟨bi,oi,cs,rfl,_,PF,ey,cM⟩:=(HSQ.o.bZ sF.o).get hlt;have hx:xs[k]? =some xs[k]:=List.getElem?_eq_getElem hlt;have hox:=Oj.o xs[k] (aan hlt);generalize xs[k]=x at hx ey hox;have hcs:cs=[bV ⟨x.word.toArray⟩,bU x.exp]:=ey;subst hcs;have b0:b_ wr bi (oi+k*2) (bV ⟨x.word.toArray⟩):=cM 0 _ rfl;have b1:b_ wr bi (oi+k*2+1) (bU x.exp):=cM 1 _ rfl;have j4:=aa (show xs.take (k+1)=xs.take k++[x] by rw[List.take_add_one,hx];rfl);obtain⟨wd,hwd⟩:∃ wd:ByteArray,wd=⟨x.word.toArray⟩:=⟨_,rfl⟩;have hwl:wd.data.toList=x.word:=(by rw[hwd]);have hwp:0<wd.size:=(by rw[← eW,hwl];exact List.length_pos_iff.2 hox.1);rw[← hwd]at b0;have hword:=fun W=>Pz wd W hwp;rw[hwl]at hword;have HWD:=aa hword;obtain⟨z,hz⟩:∃ z,z=x.exp:=⟨_,rfl⟩;rw[← hz]at b1;have hzb:(-9≤z∧z≤9)∧z≠0:=(by rw[hz];exact hox.2);have HZX:=aa hz;clear cM ey hx hox hwd hwl hwp hz hword;go_wp2_with fail;refine(HWD.o _).mono ?_;rintro e w6 ⟨f0,f1,f2,f3,f4,f5,s6,A6,n6,c6,t6,B6,m6,e6,rfl,hd,N9,VK,eO⟩;have eA:=aa (show Below wr wr w6 from((aaf _ wr).alloc aac _).trans (eO.mono ai));obtain⟨ZQ,CH⟩:=iO eO;have Pw:=eO.size;simp only[aaI]at Pw;have x0:w.heap.size<w6:=af;have xg:g<w6.heap.size:=af;have xx:wr.heap.size<w6:=af;have Yr:=aa N9;have HF6:=aa (show dW (wr+1) A6∧dW (wr+1) B6 by simpa using VK);have ZP:=aa hd;have HXB:=aa (show cN w6 wr 228 [bV wd,bU z]from cN.bZ (heap_alloc_new wr _) eO ai);clear eO Pw N9 VK hd;have HGB:=aa (V_.o.bZ eA.o hgr);cases WI:(iH x.word).isSome with
   |false=>
    have Om:=aa (show jI s=(11,eM) by
     rw[HU.o];have e:xs=(xs.take k++[x])++xs.drop (k+1):=(by rw[← j4.o];exact(List.take_append_drop _ _).symm);have h2:sj xs eM=none:=by
      rw[e,wI,wI,HDM.o];(have hn:iH x.word=none:=by cases hh:iH x.word with|none=>rfl|some y=>rw[hh]at WI;cases WI);simp only[sj,hn]
     simp only[h2])
    clear WI;have HBZ:=aa (HZR.o.bZ eA.o af);have qz:=HBZ.o.cell;have qzf:=HBZ.o.frozen;clear ZQ CH;go_wp2_with fail;have g0:(((((((((((w6.setCell (bY w 0) (bU 0)).setCell (bY w 1) (bU 0)).setCell (bY w 2) (bU 0)).setCell (bY w 3) (bU 0)).setCell (bY w 4) (bU 0)).setCell (bY w 5) (bU 0)).setCell (bY w 6) (bU 0)).setCell (bY w 7) cD).setCell (bY w 8) (bU 0)).setCell (bY w 9) cD).alloc (.cells #[bU f0,bU f1,bU f2,bU f3,bU f4,bU f5,bU s6,bW A6 n6 c6,bU t6,bW B6 m6 e6] 165)).cell? (bY w 0)=some (bU 0):=(vH _ _ _ _ aD).trans bh;have g1:(((((((((((w6.setCell (bY w 0) (bU 0)).setCell (bY w 1) (bU 0)).setCell (bY w 2) (bU 0)).setCell (bY w 3) (bU 0)).setCell (bY w 4) (bU 0)).setCell (bY w 5) (bU 0)).setCell (bY w 6) (bU 0)).setCell (bY w 7) cD).setCell (bY w 8) (bU 0)).setCell (bY w 9) cD).alloc (.cells #[bU f0,bU f1,bU f2,bU f3,bU f4,bU f5,bU s6,bW A6 n6 c6,bU t6,bW B6 m6 e6] 165)).cell? (bY w 1)=some (bU 0):=(vH _ _ _ _ aD).trans bh;have g2:(((((((((((w6.setCell (bY w 0) (bU 0)).setCell (bY w 1) (bU 0)).setCell (bY w 2) (bU 0)).setCell (bY w 3) (bU 0)).setCell (bY w 4) (bU 0)).setCell (bY w 5) (bU 0)).setCell (bY w 6) (bU 0)).setCell (bY w 7) cD).setCell (bY w 8) (bU 0)).setCell (bY w 9) cD).alloc (.cells #[bU f0,bU f1,bU f2,bU f3,bU f4,bU f5,bU s6,bW A6 n6 c6,bU t6,bW B6 m6 e6] 165)).cell? (bY w 2)=some (bU 0):=(vH _ _ _ _ aD).trans bh;have g3:(((((((((((w6.setCell (bY w 0) (bU 0)).setCell (bY w 1) (bU 0)).setCell (bY w 2) (bU 0)).setCell (bY w 3) (bU 0)).setCell (bY w 4) (bU 0)).setCell (bY w 5) (bU 0)).setCell (bY w 6) (bU 0)).setCell (bY w 7) cD).setCell (bY w 8) (bU 0)).setCell (bY w 9) cD).alloc (.cells #[bU f0,bU f1,bU f2,bU f3,bU f4,bU f5,bU s6,bW A6 n6 c6,bU t6,bW B6 m6 e6] 165)).cell? (bY w 3)=some (bU 0):=(vH _ _ _ _ aD).trans bh;have g4:(((((((((((w6.setCell (bY w 0) (bU 0)).setCell (bY w 1) (bU 0)).setCell (bY w 2) (bU 0)).setCell (bY w 3) (bU 0)).setCell (bY w 4) (bU 0)).setCell (bY w 5) (bU 0)).setCell (bY w 6) (bU 0)).setCell (bY w 7) cD).setCell (bY w 8) (bU 0)).setCell (bY w 9) cD).alloc (.cells #[bU f0,bU f1,bU f2,bU f3,bU f4,bU f5,bU s6,bW A6 n6 c6,bU t6,bW B6 m6 e6] 165)).cell? (bY w 4)=some (bU 0):=(vH _ _ _ _ aD).trans bh;have g5:(((((((((((w6.setCell (bY w 0) (bU 0)).setCell (bY w 1) (bU 0)).setCell (bY w 2) (bU 0)).setCell (bY w 3) (bU 0)).setCell (bY w 4) (bU 0)).setCell (bY w 5) (bU 0)).setCell (bY w 6) (bU 0)).setCell (bY w 7) cD).setCell (bY w 8) (bU 0)).setCell (bY w 9) cD).alloc (.cells #[bU f0,bU f1,bU f2,bU f3,bU f4,bU f5,bU s6,bW A6 n6 c6,bU t6,bW B6 m6 e6] 165)).cell? (bY w 5)=some (bU 0):=(vH _ _ _ _ aD).trans bh;have g6:(((((((((((w6.setCell (bY w 0) (bU 0)).setCell (bY w 1) (bU 0)).setCell (bY w 2) (bU 0)).setCell (bY w 3) (bU 0)).setCell (bY w 4) (bU 0)).setCell (bY w 5) (bU 0)).setCell (bY w 6) (bU 0)).setCell (bY w 7) cD).setCell (bY w 8) (bU 0)).setCell (bY w 9) cD).alloc (.cells #[bU f0,bU f1,bU f2,bU f3,bU f4,bU f5,bU s6,bW A6 n6 c6,bU t6,bW B6 m6 e6] 165)).cell? (bY w 6)=some (bU 0):=(vH _ _ _ _ aD).trans bh;have g7:(((((((((((w6.setCell (bY w 0) (bU 0)).setCell (bY w 1) (bU 0)).setCell (bY w 2) (bU 0)).setCell (bY w 3) (bU 0)).setCell (bY w 4) (bU 0)).setCell (bY w 5) (bU 0)).setCell (bY w 6) (bU 0)).setCell (bY w 7) cD).setCell (bY w 8) (bU 0)).setCell (bY w 9) cD).alloc (.cells #[bU f0,bU f1,bU f2,bU f3,bU f4,bU f5,bU s6,bW A6 n6 c6,bU t6,bW B6 m6 e6] 165)).cell? (bY w 7)=some (bW none 0 0):=(vH _ _ _ _ aD).trans bh;have g8:(((((((((((w6.setCell (bY w 0) (bU 0)).setCell (bY w 1) (bU 0)).setCell (bY w 2) (bU 0)).setCell (bY w 3) (bU 0)).setCell (bY w 4) (bU 0)).setCell (bY w 5) (bU 0)).setCell (bY w 6) (bU 0)).setCell (bY w 7) cD).setCell (bY w 8) (bU 0)).setCell (bY w 9) cD).alloc (.cells #[bU f0,bU f1,bU f2,bU f3,bU f4,bU f5,bU s6,bW A6 n6 c6,bU t6,bW B6 m6 e6] 165)).cell? (bY w 8)=some (bU 0):=(vH _ _ _ _ aD).trans bh;have g9:(((((((((((w6.setCell (bY w 0) (bU 0)).setCell (bY w 1) (bU 0)).setCell (bY w 2) (bU 0)).setCell (bY w 3) (bU 0)).setCell (bY w 4) (bU 0)).setCell (bY w 5) (bU 0)).setCell (bY w 6) (bU 0)).setCell (bY w 7) cD).setCell (bY w 8) (bU 0)).setCell (bY w 9) cD).alloc (.cells #[bU f0,bU f1,bU f2,bU f3,bU f4,bU f5,bU s6,bW A6 n6 c6,bU t6,bW B6 m6 e6] 165)).cell? (bY w 9)=some (bW none 0 0):=(vH _ _ _ _ aD).trans bh;exact bodyPost_ret (v:= .tuple #[.agg #[bU 0,bU 0,bU 0,bU 0,bU 0,bU 0,bU 0,cD,bU 0,cD],bU 11]) (by simp[results,results84,go_sem,g0,g1,g2,g3,g4,g5,g6,g7,g8,g9]) rfl ⟨0,0,0,0,0,0,0,none,0,0,0,none,0,0,by rw[Om.o],by rw[Om.o];rfl,fun h=>(by rw[Om.o]at h;exact absurd h ak),(CO ((gT.o.trans (sF.o.mono Jg)).trans (eA.o.mono (aaC Jg hwr)))).alloc aD _⟩
   |true=>
    have Yw:=WH ZP.o WI d0 d1 d2 d3 d4 d5 z;have HDO:=aa Yw.1;have hwf:=Gr WI;have r6:=aa hwf;clear WI hwf;have m0:=EZ Yw.2.1 hzb.1;have m1:=EZ Yw.2.2.1 hzb.1;have m2:=EZ Yw.2.2.2.1 hzb.1;have m3:=EZ Yw.2.2.2.2.1 hzb.1;have m4:=EZ Yw.2.2.2.2.2.1 hzb.1;have m5:=EZ Yw.2.2.2.2.2.2 hzb.1;clear Yw;have mw0:IntKind.i64.wrap (f0*z)=f0*z:=fQ af;have sw0:IntKind.i64.wrap (d0+f0*z)=d0+f0*z:=fQ af;have mw1:IntKind.i64.wrap (f1*z)=f1*z:=fQ af;have sw1:IntKind.i64.wrap (d1+f1*z)=d1+f1*z:=fQ af;have mw2:IntKind.i64.wrap (f2*z)=f2*z:=fQ af;have sw2:IntKind.i64.wrap (d2+f2*z)=d2+f2*z:=fQ af;have mw3:IntKind.i64.wrap (f3*z)=f3*z:=fQ af;have sw3:IntKind.i64.wrap (d3+f3*z)=d3+f3*z:=fQ af;have mw4:IntKind.i64.wrap (f4*z)=f4*z:=fQ af;have sw4:IntKind.i64.wrap (d4+f4*z)=d4+f4*z:=fQ af;have mw5:IntKind.i64.wrap (f5*z)=f5*z:=fQ af;have sw5:IntKind.i64.wrap (d5+f5*z)=d5+f5*z:=fQ af;have HM:=aa (show(-27≤f0*z∧f0*z≤27)∧(-27≤f1*z∧f1*z≤27)∧(-27≤f2*z∧f2*z≤27)∧(-27≤f3*z∧f3*z≤27)∧(-27≤f4*z∧f4*z≤27)∧(-27≤f5*z∧f5*z≤27)from⟨m0,m1,m2,m3,m4,m5⟩);clear m0 m1 m2 m3 m4 m5;go_wp2_with fail;have HG0:=aa (show cN (w6.alloc (.cells #[bU f0,bU f1,bU f2,bU f3,bU f4,bU f5,bU s6,bW A6 n6 c6,bU t6,bW B6 m6 e6] 165)) g 165 [bU d0,bU d1,bU d2,bU d3,bU d4,bU d5,bU sg,bW A n c,bU t,bW B m cc]from HGB.o.alloc _);have uD:=aa (show cN (w6.alloc (.cells #[bU f0,bU f1,bU f2,bU f3,bU f4,bU f5,bU s6,bW A6 n6 c6,bU t6,bW B6 m6 e6] 165)) wr 228 [bV wd,bU z]from HXB.o.alloc _);have ZY:=aa (show cN (w6.alloc (.cells #[bU f0,bU f1,bU f2,bU f3,bU f4,bU f5,bU s6,bW A6 n6 c6,bU t6,bW B6 m6 e6] 165)) w6 165 [bU f0,bU f1,bU f2,bU f3,bU f4,bU f5,bU s6,bW A6 n6 c6,bU t6,bW B6 m6 e6]from jc rfl);have ZZ:=aa (show dQ 8 (w6.alloc (.cells #[bU f0,bU f1,bU f2,bU f3,bU f4,bU f5,bU s6,bW A6 n6 c6,bU t6,bW B6 m6 e6] 165)) s6 A6 n6 t6 B6 m6 (mJ x.word)from⟨Yr.o.1.alloc _,Yr.o.2.alloc _⟩);have WJ:=aa (show dQ (4+72*k) (w6.alloc (.cells #[bU f0,bU f1,bU f2,bU f3,bU f4,bU f5,bU s6,bW A6 n6 c6,bU t6,bW B6 m6 e6] 165)) sg A n t B m (lS (xs.take k) (qy 1))from⟨(SL.o.1.bZ eA.o).alloc _,(SL.o.2.bZ eA.o).alloc _⟩);have iD:=aa (show Below wr wr (w6.alloc (.cells #[bU f0,bU f1,bU f2,bU f3,bU f4,bU f5,bU s6,bW A6 n6 c6,bU t6,bW B6 m6 e6] 165))from eA.o.alloc eA.o.size _);obtain⟨gu,Wn⟩:∃ gu,gu=w6.heap.size:=⟨_,rfl⟩;rw[← Wn]at ZY ⊢;have hs0:gu<(w6.alloc (.cells #[bU f0,bU f1,bU f2,bU f3,bU f4,bU f5,bU s6,bW A6 n6 c6,bU t6,bW B6 m6 e6] 165)).heap.size:=(by rw[Wn];simp);generalize (w6.alloc (.cells #[bU f0,bU f1,bU f2,bU f3,bU f4,bU f5,bU s6,bW A6 n6 c6,bU t6,bW B6 m6 e6] 165))=W0 at HG0 uD ZY ZZ WJ iD hs0 ⊢;have hxu:wr.heap.size<gu:=af;clear Wn ZQ CH Yr HXB HGB;have HMX:=aa (show zW W0 W0 g 0 [d0+f0*z,d1+f1*z,d2+f2*z,d3+f3*z,d4+f4*z,d5+f5*z] [d0,d1,d2,d3,d4,d5] [bU sg,bW A n c,bU t,bW B m cc]from⟨HG0.o,World.grownBy.refl _ _⟩);have hgW:g<W0.heap.size:=af;have hxW:wr.heap.size<W0:=af;have Lf:=aa (show Below w1 w1 W0 from sF.o.trans (iD.o.mono hwr));generalize hgx:wr.heap.size=gx at uD hxu hxW x0 xg xx HF6 hwr hgr ⊢;have HGX:=aa hgx;clear hgx;obtain⟨Wo,hWo⟩:∃ Wo:World,Wo=W0:=⟨_,rfl⟩;rw[← hWo]at HG0 uD ZY ZZ WJ iD Lf HMX hs0 hgW hxW;go_loopw [40] (fun v wi=>∃ (k2:Nat) (y:Int),k2≤6∧y=(k2:Int)∧v=bU y∧Hid (zW Wo wi g k2 [d0+f0*z,d1+f1*z,d2+f2*z,d3+f3*z,d4+f4*z,d5+f5*z] [d0,d1,d2,d3,d4,d5] [bU sg,bW A n c,bU t,bW B m cc])) (fun v _=>6 - (intOf v).toNat);(case atStart=>exact⟨0,0,by omega,rfl,rfl,by rw[← hWo];exact HMX.o⟩);clear HMX;obtain⟨k2,y,hk2,hy,rfl,j3⟩:=hrel;have WK:=j3.o.2.size;have HXI:=aa (show cN wr gx 228 [bV wd,bU z]from(j3.o.2.block gx hxW au).trans uD.o);have x0c:b_ wr gx 0 (bV wd):=HXI.o.cell 0;have x1c:b_ wr gx 1 (bU z):=HXI.o.cell 1;have gne:¬(g=gx):=af;have gne2:¬(gx=g):=af;by_cases hlt2:k2<6
    ·have hc2:(k2=0∧y=0)∨(k2=1∧y=1)∨(k2=2∧y=2)∨(k2=3∧y=3)∨(k2=4∧y=4)∨(k2=5∧y=5):=af;clear hy hlt2 hk2;rcases hc2 with⟨rfl,rfl⟩|⟨rfl,rfl⟩|⟨rfl,rfl⟩|⟨rfl,rfl⟩|⟨rfl,rfl⟩|⟨rfl,rfl⟩
     (·have zX:=aa (show cN wr g 165 [bU d0,bU d1,bU d2,bU d3,bU d4,bU d5,bU sg,bW A n c,bU t,bW B m cc]from j3.o.1);have a0:b_ wr g 0 (bU d0):=zX.o.cell 0;have a0f:wr.frozen? (bY g 0)=false:=zX.o.frozen 0;(have ix:∀ W,(Instr.index 91 (.agg #[bU f0,bU f1,bU f2,bU f3,bU f4,bU f5]) (bU 0)).run prog W= .ok (bU f0) W:=fun _=>by kernel_rfl);go_wp2_with fail;have hgd:Wo.grownBy wr.drew (some g):=⟨j3.o.2.os,j3.o.2.tape,j3.o.2.output,j3.o.2.size,j3.o.2.block⟩;have Te:=aa hgd;clear hgd;go_still_tail 11,ah;change wpList _ _ _ _ _ wr.drew;go_wp2_with fail;have HN:=aa (show zW Wo (wr.drew.setCell (bY g 0) (bU (d0+f0*z))) g (0+1) [d0+f0*z,d1+f1*z,d2+f2*z,d3+f3*z,d4+f4*z,d5+f5*z] [d0,d1,d2,d3,d4,d5] [bU sg,bW A n c,bU t,bW B m cc]from⟨(zX.o.drew).eB 0 (bU (d0+f0*z)),fJ Te.o 0 _⟩);go_roundw;exact⟨0+1,1,by omega,rfl,rfl,HN.o⟩;simp[intOf])
     (·have zX:=aa (show cN wr g 165 [bU (d0+f0*z),bU d1,bU d2,bU d3,bU d4,bU d5,bU sg,bW A n c,bU t,bW B m cc]from j3.o.1);have a1:b_ wr g 1 (bU d1):=zX.o.cell 1;have a1f:wr.frozen? (bY g 1)=false:=zX.o.frozen 1;(have ix:∀ W,(Instr.index 91 (.agg #[bU f0,bU f1,bU f2,bU f3,bU f4,bU f5]) (bU 1)).run prog W= .ok (bU f1) W:=fun _=>by kernel_rfl);go_wp2_with fail;have hgd:Wo.grownBy wr.drew (some g):=⟨j3.o.2.os,j3.o.2.tape,j3.o.2.output,j3.o.2.size,j3.o.2.block⟩;have Te:=aa hgd;clear hgd;go_still_tail 11,ah;change wpList _ _ _ _ _ wr.drew;go_wp2_with fail;have HN:=aa (show zW Wo (wr.drew.setCell (bY g 1) (bU (d1+f1*z))) g (1+1) [d0+f0*z,d1+f1*z,d2+f2*z,d3+f3*z,d4+f4*z,d5+f5*z] [d0,d1,d2,d3,d4,d5] [bU sg,bW A n c,bU t,bW B m cc]from⟨(zX.o.drew).eB 1 (bU (d1+f1*z)),fJ Te.o 1 _⟩);go_roundw;exact⟨1+1,2,by omega,rfl,rfl,HN.o⟩;simp[intOf])
     (·have zX:=aa (show cN wr g 165 [bU (d0+f0*z),bU (d1+f1*z),bU d2,bU d3,bU d4,bU d5,bU sg,bW A n c,bU t,bW B m cc]from j3.o.1);have a2:b_ wr g 2 (bU d2):=zX.o.cell 2;have a2f:wr.frozen? (bY g 2)=false:=zX.o.frozen 2;(have ix:∀ W,(Instr.index 91 (.agg #[bU f0,bU f1,bU f2,bU f3,bU f4,bU f5]) (bU 2)).run prog W= .ok (bU f2) W:=fun _=>by kernel_rfl);go_wp2_with fail;have hgd:Wo.grownBy wr.drew (some g):=⟨j3.o.2.os,j3.o.2.tape,j3.o.2.output,j3.o.2.size,j3.o.2.block⟩;have Te:=aa hgd;clear hgd;go_still_tail 11,ah;change wpList _ _ _ _ _ wr.drew;go_wp2_with fail;have HN:=aa (show zW Wo (wr.drew.setCell (bY g 2) (bU (d2+f2*z))) g (2+1) [d0+f0*z,d1+f1*z,d2+f2*z,d3+f3*z,d4+f4*z,d5+f5*z] [d0,d1,d2,d3,d4,d5] [bU sg,bW A n c,bU t,bW B m cc]from⟨(zX.o.drew).eB 2 (bU (d2+f2*z)),fJ Te.o 2 _⟩);go_roundw;exact⟨2+1,3,by omega,rfl,rfl,HN.o⟩;simp[intOf])
     (·have zX:=aa (show cN wr g 165 [bU (d0+f0*z),bU (d1+f1*z),bU (d2+f2*z),bU d3,bU d4,bU d5,bU sg,bW A n c,bU t,bW B m cc]from j3.o.1);have a3:b_ wr g 3 (bU d3):=zX.o.cell 3;have a3f:wr.frozen? (bY g 3)=false:=zX.o.frozen 3;(have ix:∀ W,(Instr.index 91 (.agg #[bU f0,bU f1,bU f2,bU f3,bU f4,bU f5]) (bU 3)).run prog W= .ok (bU f3) W:=fun _=>by kernel_rfl);go_wp2_with fail;have hgd:Wo.grownBy wr.drew (some g):=⟨j3.o.2.os,j3.o.2.tape,j3.o.2.output,j3.o.2.size,j3.o.2.block⟩;have Te:=aa hgd;clear hgd;go_still_tail 11,ah;change wpList _ _ _ _ _ wr.drew;go_wp2_with fail;have HN:=aa (show zW Wo (wr.drew.setCell (bY g 3) (bU (d3+f3*z))) g (3+1) [d0+f0*z,d1+f1*z,d2+f2*z,d3+f3*z,d4+f4*z,d5+f5*z] [d0,d1,d2,d3,d4,d5] [bU sg,bW A n c,bU t,bW B m cc]from⟨(zX.o.drew).eB 3 (bU (d3+f3*z)),fJ Te.o 3 _⟩);go_roundw;exact⟨3+1,4,by omega,rfl,rfl,HN.o⟩;simp[intOf])
     (·have zX:=aa (show cN wr g 165 [bU (d0+f0*z),bU (d1+f1*z),bU (d2+f2*z),bU (d3+f3*z),bU d4,bU d5,bU sg,bW A n c,bU t,bW B m cc]from j3.o.1);have a4:b_ wr g 4 (bU d4):=zX.o.cell 4;have a4f:wr.frozen? (bY g 4)=false:=zX.o.frozen 4;(have ix:∀ W,(Instr.index 91 (.agg #[bU f0,bU f1,bU f2,bU f3,bU f4,bU f5]) (bU 4)).run prog W= .ok (bU f4) W:=fun _=>by kernel_rfl);go_wp2_with fail;have hgd:Wo.grownBy wr.drew (some g):=⟨j3.o.2.os,j3.o.2.tape,j3.o.2.output,j3.o.2.size,j3.o.2.block⟩;have Te:=aa hgd;clear hgd;go_still_tail 11,ah;change wpList _ _ _ _ _ wr.drew;go_wp2_with fail;have HN:=aa (show zW Wo (wr.drew.setCell (bY g 4) (bU (d4+f4*z))) g (4+1) [d0+f0*z,d1+f1*z,d2+f2*z,d3+f3*z,d4+f4*z,d5+f5*z] [d0,d1,d2,d3,d4,d5] [bU sg,bW A n c,bU t,bW B m cc]from⟨(zX.o.drew).eB 4 (bU (d4+f4*z)),fJ Te.o 4 _⟩);go_roundw;exact⟨4+1,5,by omega,rfl,rfl,HN.o⟩;simp[intOf]);have zX:=aa (show cN wr g 165 [bU (d0+f0*z),bU (d1+f1*z),bU (d2+f2*z),bU (d3+f3*z),bU (d4+f4*z),bU d5,bU sg,bW A n c,bU t,bW B m cc]from j3.o.1);have a5:b_ wr g 5 (bU d5):=zX.o.cell 5;have a5f:wr.frozen? (bY g 5)=false:=zX.o.frozen 5;(have ix:∀ W,(Instr.index 91 (.agg #[bU f0,bU f1,bU f2,bU f3,bU f4,bU f5]) (bU 5)).run prog W= .ok (bU f5) W:=fun _=>by kernel_rfl);go_wp2_with fail;have hgd:Wo.grownBy wr.drew (some g):=⟨j3.o.2.os,j3.o.2.tape,j3.o.2.output,j3.o.2.size,j3.o.2.block⟩;have Te:=aa hgd;clear hgd;go_still_tail 11,ah;change wpList _ _ _ _ _ wr.drew;go_wp2_with fail;have HN:=aa (show zW Wo (wr.drew.setCell (bY g 5) (bU (d5+f5*z))) g (5+1) [d0+f0*z,d1+f1*z,d2+f2*z,d3+f3*z,d4+f4*z,d5+f5*z] [d0,d1,d2,d3,d4,d5] [bU sg,bW A n c,bU t,bW B m cc]from⟨(zX.o.drew).eB 5 (bU (d5+f5*z)),fJ Te.o 5 _⟩);go_roundw;exact⟨5+1,6,by omega,rfl,rfl,HN.o⟩;simp[intOf]
    (obtain rfl:k2=6:=by omega);obtain rfl:y=6:=hy;have zX:=aa (show cN wr g 165 [bU (d0+f0*z),bU (d1+f1*z),bU (d2+f2*z),bU (d3+f3*z),bU (d4+f4*z),bU (d5+f5*z),bU sg,bW A n c,bU t,bW B m cc]from j3.o.1);have HUI:=aa (show cN wr gu 165 [bU f0,bU f1,bU f2,bU f3,bU f4,bU f5,bU s6,bW A6 n6 c6,bU t6,bW B6 m6 e6]from(j3.o.2.block gu hs0 au).trans ZY.o);have hHA:=HF6.o;have HAR:=aa (show dQ 8 wr s6 A6 n6 t6 B6 m6 (mJ x.word)from⟨ZZ.o.1.wJ (Ig.nw hHA.1 af) j3.o.2,ZZ.o.2.wJ (Ig.nw hHA.2 af) j3.o.2⟩);have HFRR:=aa (show dQ (4+72*k) wr sg A n t B m (lS (xs.take k) (qy 1))from⟨WJ.o.1.wJ HAP.o.1.1 j3.o.2,WJ.o.2.wJ HAP.o.1.2 j3.o.2⟩);have LY:=aa (show Below w1 w1 wr from Lf.o.grown j3.o.2 af (fun j hj=>by cases hj;exact hg1));clear hHA;have Z0:g<wr.heap.size:=af;have hgu2:gu<wr.heap.size:=af;have az:=zX.o.cell;have uz:=HUI.o.cell;clear HUI;go_wp2_with fail;have Z1:=HRT.o;have Z2:=r6.o;refine(Md _ _ _ _ _ _ HFRR.o HAR.o Z1.1 Z1.2 Z2.1 Z2.2 hzb af).mono ?_;rintro e w7 ⟨s7,A7,n7,c7,t7,B7,m7,e7,rfl,Rh,hF7,nE⟩;have WD:=aa Rh;have Z3:=aa hF7;have ko:=aa nE;have hw7:=nE.size;have WL:=aa (show cN w7 g 165 [bU (d0+f0*z),bU (d1+f1*z),bU (d2+f2*z),bU (d3+f3*z),bU (d4+f4*z),bU (d5+f5*z),bU sg,bW A n c,bU t,bW B m cc]from zX.o.bZ nE Z0);have pz:=WL.o.cell;have pzf:=WL.o.frozen;clear Rh hF7 nE Z1 Z2;go_wp2_with fail;have hm7:=HM.o;have HN:=aa (show Mh xs w1 ((((w7.setCell (bY g 6) (bU s7)).setCell (bY g 7) (bW A7 n7 c7)).setCell (bY g 8) (bU t7)).setCell (bY g 9) (bW B7 m7 e7)) w g (k+1)from by
     have ht7:=Gl HRT.o.1 HRT.o.2 r6.o.1 r6.o.2 x.exp;have hft:lS (xs.take (k+1)) (qy 1)=oK (lS (xs.take k) (qy 1)) (mJ x.word) z:=(by rw[j4.o,CN,HZX.o]);have hdt:sj (xs.take (k+1)) eM=some [d0+f0*z,d1+f1*z,d2+f2*z,d3+f3*z,d4+f4*z,d5+f5*z]:=by
      rw[j4.o,wI,HDM.o];have hxe:x=⟨x.word,z⟩:=(by rw[HZX.o]);rw[hxe];exact HDO.o
     have p1:=Ig.nw (b:=(lS (xs.take (k+1)) (qy 1)).p) Z3.o.1 Z0;have p2:=Ig.nw (b:=(lS (xs.take (k+1)) (qy 1)).q) Z3.o.2 Z0;have p3:=Ig.nw (b:=(lS (xs.take (k+1)) (qy 1)).p) Z3.o.1 (show w.heap.size<wr by omega);have p4:=Ig.nw (b:=(lS (xs.take (k+1)) (qy 1)).q) Z3.o.2 (show w.heap.size<wr by omega);have Rh:=WD.o;rw[← hft]at Rh;rw[← HZX.o, ← hft]at ht7;refine⟨d0+f0*z,d1+f1*z,d2+f2*z,d3+f3*z,d4+f4*z,d5+f5*z,s7,A7,n7,c7,t7,B7,m7,e7,?_,hdt,?_,ht7,⟨⟨p1,p2⟩,⟨p3,p4⟩⟩,?_,?_,hg1⟩
     (·exact((((WL.o.eB 6 (bU s7)).eB 7 (bW A7 n7 c7)).eB 8 (bU t7)).eB 9 (bW B7 m7 e7)))
     (·rw[show 4+72*(k+1)=4+72*k+72 by omega];exact⟨((((((((Rh.1).gH p1 _)).gH p1 _)).gH p1 _)).gH p1 _),((((((((Rh.2).gH p2 _)).gH p2 _)).gH p2 _)).gH p2 _)⟩)
     (·exact(((((LY.o.trans (ko.o.mono af)).setCell (p:=bY g 6) hg1 (bU s7)).setCell (p:=bY g 7) hg1 (bW A7 n7 c7)).setCell (p:=bY g 8) hg1 (bU t7)).setCell (p:=bY g 9) hg1 (bW B7 m7 e7)));refine⟨?_,?_,?_,?_,?_,?_⟩<;>(simp only[Int.natCast_add,Int.cast_ofNat_Int];omega))
    clear hm7;go_roundw;exact⟨k+1,by omega,rfl,HN.o⟩;simp[intOf];omega
  have hkx:k=xs.length:=af;(have SK:sj xs eM=some [d0,d1,d2,d3,d4,d5]:=by have:=HDM.o;rw[hkx,List.take_length]at this;exact this);have Om:=aa (show jI s=if dN [d0,d1,d2,d3,d4,d5]then(0,[d0,d1,d2,d3,d4,d5])else(3,eM)from by rw[HU.o];simp only[SK]);have VM:=aa (show E0 s.data.toList=lS (xs.take k) (qy 1)from by rw[hkx,List.take_length];exact HRD.o xs rfl);clear SK;generalize hdr:dN [d0,d1,d2,d3,d4,d5]=dr at Om;have HDR:=aa hdr;clear hdr;go_wp2_with fail;refine(mK _ _ _ _ _ _ _).mono ?_;rintro e w9 ⟨rfl,l9⟩;rw[HDR.o];have je:=aa l9;have hw9:=l9.size;have HG9:=aa (V_.o.bZ l9 hgr);have HZ9:=aa (HZR.o.bZ l9 af);clear l9 hkx;clear a0 a0f a1 a1f a2 a2f a3 a3f a4 a4f a5 a5f a6 a6f a7 a7f a8 a8f a9 a9f;have qz:=HZ9.o.cell;have qzf:=HZ9.o.frozen;have az:=HG9.o.cell;cases dr with
  |false=>
   have HU3:=aa (show jI s=(3,eM) by rw[Om.o];rfl);go_wp2_with fail;exact bodyPost_ret (v:= .tuple #[.agg #[bU 0,bU 0,bU 0,bU 0,bU 0,bU 0,bU 0,cD,bU 0,cD],bU 3]) (by simp[results,results84,go_sem,qz]) rfl ⟨0,0,0,0,0,0,0,none,0,0,0,none,0,0,by rw[HU3.o],by rw[HU3.o];rfl,fun h=>(by rw[HU3.o]at h;exact absurd h ak),CO ((gT.o.trans (sF.o.mono Jg)).trans (je.o.mono (aaC Jg hwr)))⟩
  |true=>
   have ZY:=aa (show jI s=(0,[d0,d1,d2,d3,d4,d5]) by rw[Om.o];rfl);go_wp2_with fail;have hfr9:=SL.o;have qC:=HAP.o.2;have l9:=je.o;exact bodyPost_ret (v:= .tuple #[.agg #[bU d0,bU d1,bU d2,bU d3,bU d4,bU d5,bU sg,bW A n c,bU t,bW B m cc],bU 0]) (by simp[results,results84,go_sem,qz]) rfl ⟨d0,d1,d2,d3,d4,d5,sg,A,n,c,t,B,m,cc,by rw[ZY.o],by rw[ZY.o],fun _=>⟨(by rw[VM.o];exact⟨(((((((((((((((((((((hfr9.1.bZ l9).up af).gH qC.1 _)).gH qC.1 _)).gH qC.1 _)).gH qC.1 _)).gH qC.1 _)).gH qC.1 _)).gH qC.1 _)).gH qC.1 _)).gH qC.1 _)).gH qC.1 _),(((((((((((((((((((((hfr9.2.bZ l9).up af).gH qC.2 _)).gH qC.2 _)).gH qC.2 _)).gH qC.2 _)).gH qC.2 _)).gH qC.2 _)).gH qC.2 _)).gH qC.2 _)).gH qC.2 _)).gH qC.2 _)⟩),by rw[VM.o];exact HRT.o⟩,((((((((((((gT.o.trans (sF.o.mono Jg)).trans (je.o.mono (aaC Jg hwr))).setCell (p:=bY w 0) aac (bU d0)).setCell (p:=bY w 1) aac (bU d1)).setCell (p:=bY w 2) aac (bU d2)).setCell (p:=bY w 3) aac (bU d3)).setCell (p:=bY w 4) aac (bU d4)).setCell (p:=bY w 5) aac (bU d5)).setCell (p:=bY w 6) aac (bU sg)).setCell (p:=bY w 7) aac (bW A n c)).setCell (p:=bY w 8) aac (bU t)).setCell (p:=bY w 9) aac (bW B m cc))⟩
def iU (ps:List eX) (x:cw):Bool:=x.op==1&&decide (nh ps x.name<0)
def qD (ps:List eX):Nat→Bool
 |0=>false
 |k+1=>qD ps k||match ps[k]? with|some q=>decide (nh ps q.name<(k:Int))|none=>false
def nJ (fs:List cL) (f:cL):Int:=
 if qD f.params f.params.length then 5 else if dK (iU f.params) f.body||dK (j7 fs) f.body then 11 else if dK (j8 fs) f.body then 1 else 0
structure Jh (pf:Nat) (fn:ByteArray) (A:Option Addr) (d:Nat) (ps:List eX) (op n:Int) (un nm:ByteArray) (A2:Option Addr) (k c2:Nat) (W:World):Prop where
 cell:∀ j,W.cell? (bY pf j)=([bV fn,bW A ps d,bU op,bU n,bV un,bV nm,bW A2 k c2]:List Value)[j]?
 lt:pf<W.heap.size
 sq:Sq jm W Any A ps
 len:ps.length≤6
theorem Jh.bZ {pf:Nat} {fn:ByteArray} {A:Option Addr} {d:Nat} {ps:List eX} {op n:Int} {un nm:ByteArray} {A2:Option Addr} {k c2:Nat} {W W':World} (h:Jh pf fn A d ps op n un nm A2 k c2 W) (hb:Below W W W'):Jh pf fn A d ps op n un nm A2 k c2 W':=
 ⟨fun j=>(hb.cell (p:=bY pf j) h.lt).trans (h.cell j),aaD h.lt hb.size,h.sq.bZ hb,h.len⟩
theorem Gs:∀ args w,(callFunc 131 args).run prog w= .ok (.enter 131 args) w:=enters_of func131 ah rfl
theorem Mj (pf:Nat) (fn:ByteArray) (A:Option Addr) (d:Nat) (ps:List eX) (fo fm:Int) (fu fq:ByteArray) (A2:Option Addr) (fk c2:Nat) (W:World) (cs:List Value) (y:cw) (hF:Jh pf fn A d ps fo fm fu fq A2 fk c2 W) (hI:cH W Any cs y):Calls prog 131 (#[.agg cs.toArray]++#[.pointer (bY pf 0)]) W (lM (iU ps y) W):=by
 obtain⟨op,n,un,nm,B,k,ar,e1,e2,_⟩:=hI.parts;subst e1 e2;have h0:=hF.cell;have hp:=hF.lt;have HF:=aa (fun W' (hb:Below W W W')=>oH .nilFunc A d ps fo fm fu fq A2 fk c2 fn nm W' (hF.sq.bZ hb) (by have:=hF.len;unfold maxLen;omega));have HR:=aa (show iU ps (.mk op n un nm ar)=(op==1&&decide (nh ps nm<0))from rfl);generalize iU ps (.mk op n un nm ar)=r at HR ⊢;generalize nh ps nm=z at HF HR;generalize ps.length=m at h0 HF;clear hI hF;show Calls prog 131 #[.agg #[bU op,bU n,bV un,bV nm,bW B ar k],.pointer (bY pf 0)] W _;have HB:=aa (show Below W W (W.alloc (.cells #[bU op,bU n,bV un,bV nm,bW B ar k] 47))from cS _);by_cases ho:op=1
 (·subst ho;go_enter func131,ntmps131;go_wp2_with fail;refine(HF.o _ HB.o).mono ?_;rintro e w1 ⟨rfl,hb⟩;have HW:=aa (HB.o.trans (hb.mono HB.o.size));clear hb;go_wp2;go_ret;exact⟨by rw[HR.o];rfl,HW.o⟩);have h3:(op==1)=false:=bE;go_enter func131,ntmps131;go_wp2;go_ret;exact⟨by rw[HR.o,h3];rfl,HB.o⟩
theorem Tf (l:List eX) (w:World) (hq:∀ q∈l,wh q∧cR q.unit=true):jT prog 130 #[] jm (fun _=>false) l w:=fun W cs x hx ey hb=>by
 have e:cs=[bV x.name,bV x.unit]:=ey;subst e;have HQ:=aa (fun W=>n9 x.unit W (hq x hx).1.unit);have H0:=aa (show((jI x.unit).1 != 0)=false by have:=(hq x hx).2;unfold cR at this;simpa using this);have HB:=aa (show Below W W (W.alloc (.cells #[bV x.name,bV x.unit] 112))from cS _);generalize x.name=xn at HB ⊢;generalize x.unit=xu at HQ HB H0 ⊢;clear ey hx hq;show Calls prog 130 #[.agg #[bV xn,bV xu]] W _;go_enter func130,ntmps130;go_wp2_with fail;refine(HQ.o _).mono ?_;rintro e w1 ⟨d0,d1,d2,d3,d4,d5,s',A,n,c,t,B,m,cc,rfl,hd,hf,hb1⟩;have HW:=aa (HB.o.trans (hb1.mono HB.o.size));clear hb1 hd hf;go_wp2;go_ret;exact⟨cZ H0.o,HW.o.alloc HW.o.size _⟩
def tZ (g:Nat) (A:Option Addr) (c:Nat) (fs:List cL) (w:World) (e:Ending) (w':World):Prop:=
 e= .returned (.func (.func g) #[] #[.pointer (bY w 0)])∧uR w A c fs w'∧Below w w w'
theorem Ji (A:Option Addr) (c:Nat) (fs:List cL) (w:World) (hs:Sq gR w Any A fs) (hl:fs.length≤1000000000):uR w A c fs (w.alloc (.cells #[bW A fs c] 25)):=
 ⟨cN.cell (heap_alloc_new w _) 0,by simp,hs.alloc _,hl⟩
theorem wK (A:Option Addr) (c:Nat) (fs:List cL) (w:World) (hs:Sq gR w Any A fs) (hl:fs.length≤1000000000):Calls prog 88 #[bW A fs c] w (tZ 147 A c fs w):=by
 have HN:=aa (Ji A c fs w hs hl);generalize hP:tZ 147 A c fs w=P;have HP:=aa (show ∀ e w',tZ 147 A c fs w e w'→P e w' from fun e w' h=>hP▸h);clear hP hs hl;generalize fs.length=m at HN ⊢;go_enter func88,ntmps88;go_wp2;exact HP.o _ _ ⟨rfl,HN.o,cS _⟩
theorem zY (A:Option Addr) (c:Nat) (fs:List cL) (w:World) (hs:Sq gR w Any A fs) (hl:fs.length≤1000000000):Calls prog 89 #[bW A fs c] w (tZ 148 A c fs w):=by
 have HN:=aa (Ji A c fs w hs hl);generalize hP:tZ 148 A c fs w=P;have HP:=aa (show ∀ e w',tZ 148 A c fs w e w'→P e w' from fun e w' h=>hP▸h);clear hP hs hl;generalize fs.length=m at HN ⊢;go_enter func89,ntmps89;go_wp2;exact HP.o _ _ ⟨rfl,HN.o,cS _⟩
theorem jD {p:cw→Bool} {x:cw} (h:dK p x=false):p x=false:=by
 cases x with|mk op n u nm args=>rw[lQ,Bool.or_eq_false_iff]at h;exact h.1
theorem kr {p:cw→Bool} {x y:cw} (h:dK p x=false) (hy:y∈x.args):dK p y=false:=by
 (cases x with|mk op n u nm args=>rw[lQ,Bool.or_eq_false_iff]at h;exact List.any_eq_false.1 h.2 y hy |> fun h=>by simpa using h)
theorem Mk (A0:Option Addr) (c:Nat) (fs:List cL) (w:World) (i:Nat) (hs:Sq gR w Any A0 fs) (hl:fs.length≤1000000000) (hi:i<fs.length) (ho:NY fs[i]) (hu:findF fs fs[i].name=(i:Int)) (hn:cE fs[i].body≤1000000) (hq:∀ q∈fs[i].params,cR q.unit=true):Calls prog 80 #[bW A0 fs c,bU i] w (qp (nJ fs fs[i]) w):=by
 obtain⟨b,o,cs,hA,_,hb,ey,cM⟩:=hs.get hi;subst hA;have HF:=aa (fun W (hW:Below w w W)=>I3 fs[i] cs W (gR.keep ey (cB.cA hW)) ho);have uo:=aa (fun W (hW:Below w w W)=>qq (bY b o) c fs fs[i].name W (hs.bZ hW) aH);rw[hu]at uo;have HU:=aa (fun W (hW:Below w w W)=>wK (bY b o) c fs W (hs.bZ hW) hl);have HV:=aa (fun W (hW:Below w w W)=>zY (bY b o) c fs W (hs.bZ hW) hl);have HE:=aa (show nJ fs fs[i]=if qD fs[i].params fs[i].params.length then 5 else if dK (iU fs[i].params) fs[i].body||dK (j7 fs) fs[i].body then 11 else if dK (j8 fs) fs[i].body then 1 else 0 from rfl);generalize nJ fs fs[i]=r at HE ⊢;generalize fs[i]=f at HF uo HE ho hn hq ey;clear hs hu;obtain⟨A,d,es,e,hsp,hie⟩:=ey;have HX:=aa (fun W (hW:Below w w W)=>hie.keep (cB.cA hW));obtain⟨op,n,un,nm,A2,c2,ar,hbd,hes,_⟩:=hie.parts;subst hes e;have hms:f.params.length≤6:=ho.hi;have vK:=aa (fun q (h:q∈f.params)=>And.intro (ho.sm.each q h) (hq q h));have NJ:=aa hsp;have h0:b_ w b (o+i*7) (bV f.name):=cM 0 _ rfl;have h1:b_ w b (o+i*7+1) (bW A f.params d):=cM 1 _ rfl;have h2:b_ w b (o+i*7+2) (bU op):=cM 2 _ rfl;have h3:b_ w b (o+i*7+3) (bU n):=cM 3 _ rfl;have h4:b_ w b (o+i*7+4) (bV un):=cM 4 _ rfl;have h5:b_ w b (o+i*7+5) (bV nm):=cM 5 _ rfl;have h6:b_ w b (o+i*7+6) (bW A2 ar c2):=cM 6 _ rfl;clear cM ho hq hsp;have VG:=aa (fun(W:World) (h:Jh w f.name A d f.params op n un nm A2 ar.length c2 W) (hW:Below w w W)=>
  qs Gs (lb:=#[.pointer (bY w 0)]) (iU f.params) (fun W=>Jh w f.name A d f.params op n un nm A2 ar.length c2 W) (fun _=>True) (fun _ _ _ _=>trivial) (fun h hb=>h.bZ hb) (fun W cs y _ hQ hI=>Mj w f.name A d f.params op n un nm A2 ar.length c2 W cs y hQ hI) f.body hn W _ trivial h (HX.o W hW))
 have HP2:=aa (fun(pf:Nat) (W:World) (hW:Below w w W) (h:uR pf (bY b o) c fs W)=>
  qs Cm (lb:=#[.pointer (bY pf 0)]) (j7 fs) (uR pf (bY b o) c fs) (fun _=>True) (fun _ _ _ _=>trivial) (fun h hb=>h.bZ hb) (fun W cs y _ hQ hI=>I2 pf _ c fs W cs y hQ hI) f.body hn W _ trivial h (HX.o W hW))
 have Ml:=aa (fun(hk:dK (j7 fs) f.body=false) (pf:Nat) (W:World) (hW:Below w w W) (h:uR pf (bY b o) c fs W)=>
  qs zO (lb:=#[.pointer (bY pf 0)]) (j8 fs) (uR pf (bY b o) c fs) (fun x=>dK (j7 fs) x=false) (fun x hx y hy=>kr hx hy) (fun h hb=>h.bZ hb) (fun W cs y hy hQ hI=>EK pf _ c fs W cs y hQ hI (jD hy)) f.body hn W _ hk h (HX.o W hW))
 clear HX hn hie;generalize hsb:dK (iU f.params) f.body=sb at HE VG;generalize hub:dK (j7 fs) f.body=ub at HE HP2 Ml;generalize dK (j8 fs) f.body=vb at HE Ml;clear hsb hub hbd;obtain⟨ps,hps⟩:∃ ps,ps=f.params:=⟨_,rfl⟩;rw[← hps]at VG HE vK NJ hms h1;have HPs:=aa hps;have hwk:Below w w (w.alloc (.cells #[bV f.name,bW A ps d,bU op,bU n,bV un,bV nm,bW A2 ar c2] 69)):=cS _;have Tg:Hid (Jh w f.name A d ps op n un nm A2 ar.length c2 (w.alloc (.cells #[bV f.name,bW A ps d,bU op,bU n,bV un,bV nm,bW A2 ar c2] 69))):=
  aa ⟨cN.cell (heap_alloc_new w _),by simp,NJ.o.alloc _,hms⟩
 rw[← hps]at HF;have gT:=aa hwk;have Yx:=aa (HF.o _ hwk);generalize hf:f.name=fn at HF uo VG Tg h0 Yx gT;clear hps hwk HF HPs hf;have hie0:decide ((i:Int)<(i:Int))=false:=ai;generalize hP:qp r w=P;have HP:=aa (show ∀ e w',qp r w e w'→P e w' from fun e w' h=>hP▸h);clear hP;go_enter func80,ntmps80;go_wp2_with fail;refine Yx.o.mono ?_;rintro e w2 ⟨rfl,hb2⟩;have dG:=aa (gT.o.trans (hb2.mono gT.o.size));have Jj:=aa (Tg.o.bZ hb2);have y2:=Jj.o.cell;clear hb2 Tg Yx gT h0 h1 h2 h3 h4 h5 h6;go_wp2_with fail;refine(uo.o w2 dG.o).mono ?_;rintro e w3 ⟨rfl,hb3⟩;have eF:=aa (dG.o.trans (hb3.mono dG.o.size));have Th:=aa (Jj.o.bZ hb3);have y3:=Th.o.cell;clear hb3 Jj dG y2 uo;go_wp2_with fail;clear y3;go_loopw [6,27] (fun v6 s27 wr=>∃ k:Nat,k≤ps.length∧s27=bU (k:Int)∧v6= .bool (qD ps k)∧Hid (Below w w wr)∧Hid (Jh w fn A d ps op n un nm A2 ar.length c2 wr)) (fun _ s27 _=>ps.length - (intOf s27).toNat);(case atStart=>exact⟨0,aaG _,rfl,rfl,eF,Th⟩);clear eF Th;obtain⟨k,hk,rfl,rfl,gC,PG⟩:=hrel;by_cases hlt:k<ps.length
 ·obtain⟨b2,o2,cs2,Yv,_,hb2,Gt,Gu⟩:=PG.o.sq.get hlt;subst Yv;have e2:cs2=[bV ps[k].name,bV ps[k].unit]:=Gt;subst e2;have g0:b_ wr b2 (o2+k*2) (bV ps[k].name):=Gu 0 _ rfl;have g1:b_ wr b2 (o2+k*2+1) (bV ps[k].unit):=Gu 1 _ rfl;have HD:=aa (show qD ps (k+1)=(qD ps k||decide (nh ps ps[k].name<(k:Int))) by unfold qD;rw[List.getElem?_eq_getElem hlt];cases k<;>rfl);generalize hpn:ps[k].name=pn at g0 HD;generalize ps[k].unit=pu at g1;have dF:=aa (gC.o.alloc gC.o.size (.cells #[bV pn,bV pu] 112));have Gv:=aa (PG.o.bZ (cS (.cells #[bV pn,bV pu] 112)));have E1:=aa (oH .nilFunc _ d ps op n un nm A2 ar.length c2 fn pn _ Gv.o.sq aH);have y5:=Gv.o.cell;clear Gu Gt hpn;generalize nh ps pn=z at HD E1;cases hdup:qD ps k with
  |true=>
   have HD2:=aa (show true=qD ps (k+1) by rw[HD.o,hdup];rfl);clear hdup E1;go_wp2;go_roundw;exact⟨k+1,by omega,rfl,by rw[← HD2.o],dF,Gv⟩;simp[intOf];omega
  |false=>
   have HD2:=aa (show decide (z<(k:Int))=qD ps (k+1) by rw[HD.o,hdup];rfl);clear hdup HD;go_wp2_with fail;refine E1.o.mono ?_;rintro e w6 ⟨rfl,eO⟩;have eA:=aa (dF.o.trans (eO.mono dF.o.size));have HFn6:=aa (Gv.o.bZ eO);clear eO E1 y5;go_wp2;go_roundw;exact⟨k+1,by omega,rfl,by rw[← HD2.o],eA,HFn6⟩;simp[intOf];omega
 (obtain rfl:k=ps.length:=by omega);have y4:=PG.o.cell;cases hdup:qD ps ps.length with
 |true=>
  have HR:=aa (show r=5 by rw[HE.o,hdup];rfl);clear hdup;go_wp2;exact HP.o (.returned (bU 5)) _ ⟨by rw[HR.o],gC.o⟩
 |false=>
  have HR:=aa (show r=if sb||ub then 11 else if vb then 1 else 0 by rw[HE.o,hdup];rfl);have HC:=aa (oC (fun _=>false) 130 #[] (enters_of func130 ah rfl) A d ps wr (Tf ps wr vK.o) aH PG.o.sq);rw[show(ps.any fun _=>false)=false by induction ps<;>simp_all]at HC;clear hdup HE;go_wp2_with fail;refine HC.o.mono ?_;rintro e w5 ⟨rfl,ew⟩;have dF:=aa (gC.o.trans (ew.mono gC.o.size));have Gv:=aa (PG.o.bZ ew);clear ew HC gC PG y4;have y5:=Gv.o.cell;have Jk:=aa (fun W (q:Below w5 w5 W)=>(Gv.o.bZ q).cell);have DU:=aa (fun W (q:Below w5 w5 W)=>VG.o W (Gv.o.bZ q) (dF.o.trans (q.mono dF.o.size)));have HU:=aa (fun W (q:Below w5 w5 W)=>HU.o W (dF.o.trans (q.mono dF.o.size)));have HV:=aa (fun W (q:Below w5 w5 W)=>HV.o W (dF.o.trans (q.mono dF.o.size)));have ux:=aa (fun pf W (q:Below w5 w5 W) h=>HP2.o pf W (dF.o.trans (q.mono dF.o.size)) h);have CP:=aa (fun hk pf W (q:Below w5 w5 W) h=>Ml.o hk pf W (dF.o.trans (q.mono dF.o.size)) h);have WM:=aa (fun W (q:Below w5 w5 W)=>dF.o.trans (q.mono dF.o.size));clear VG HP2 Ml dF Gv;cases sb with
  |true=>
   go_wp2_with fail;refine cV (S:=fun w'=>∀ j,w'.cell? (bY w j)=([bV fn,bW A ps d,bU op,bU n,bV un,bV nm,bW A2 ar c2]:List Value)[j]?) [0,2,1,4,5,7,6,8,9,10,11] [(0,false),(2,false),(1,false),(3,true),(4,false),(5,false),(7,false),(6,false),(8,false),(9,false),(10,false),(11,false)] ah ah aq rfl ah (y5) ?_;(iterate 3 refine hwr ?_);refine hwt fun K hK=>?_;go_simp;refine(DU.o _ dX.jo).mono ?_;rintro e w6 ⟨rfl,eO⟩;have eA:=aa (dX.jo.trans (eO.mono dX.jo.size));have y6:=Jk.o w6 eA.o;clear eO;refine hK.o _ _ (y6) ?_;clear hK K;refine hwr ?_;(iterate 5 refine Zp ?_);refine hwr ?_;refine hwr ?_;refine eD ?_;(try go_frame);have wu:=aa (show r=11 by rw[HR.o];rfl);clear HR;go_wp2;exact HP.o (.returned (bU 11)) _ ⟨by rw[wu.o],WM.o _ eA.o⟩
  |false=>
   go_wp2_with fail;refine cV (S:=fun w'=>∀ j,w'.cell? (bY w j)=([bV fn,bW A ps d,bU op,bU n,bV un,bV nm,bW A2 ar c2]:List Value)[j]?) [0,2,1,4,5,7,6,10,11] [(0,false),(2,false),(1,false),(3,true),(4,false),(5,false),(7,false),(6,false),(8,true),(9,true),(10,false),(11,false)] ah ah aq rfl ah (y5) ?_;(iterate 3 refine hwr ?_);refine hwt fun K hK=>?_;go_simp;refine(DU.o _ dX.jo).mono ?_;rintro e w6 ⟨rfl,eO⟩;have eA:=aa (dX.jo.trans (eO.mono dX.jo.size));have y6:=Jk.o w6 eA.o;clear eO;refine hK.o _ _ (y6) ?_;clear hK K;(iterate 4 refine hwr ?_);refine hwt fun K hK=>?_;go_simp;refine(HU.o w6 eA.o).mono ?_;rintro e w7 ⟨rfl,hf7,nE⟩;have ko:=aa (eA.o.trans (nE.mono eA.o.size));have y7:=Jk.o w7 ko.o;have Z3:=aa hf7;clear nE hf7;refine hK.o _ _ (y7) ?_;clear hK K;refine hwt fun K hK=>?_;go_simp;refine(ux.o _ w7 ko.o Z3.o).mono ?_;rintro e w8 ⟨rfl,o_⟩;have lD:=aa (ko.o.trans (o_.mono ko.o.size));clear o_;refine hK.o _ _ (Jk.o w8 lD.o) ?_;clear hK K;refine hwr ?_;refine hwr ?_;refine eD ?_;(try go_frame);clear y5 y6 y7 Z3;cases ub with
   |true=>
    have wu:=aa (show r=11 by rw[HR.o];rfl);clear HR;go_wp2;exact HP.o (.returned (bU 11)) _ ⟨by rw[wu.o],WM.o _ lD.o⟩
   |false=>
    have DV:=aa (rfl:(false:Bool)=false);have y8:=Jk.o w8 lD.o;go_wp2_with fail;refine cV (S:=fun w'=>∀ j,w'.cell? (bY w j)=([bV fn,bW A ps d,bU op,bU n,bV un,bV nm,bW A2 ar c2]:List Value)[j]?) [0,2,1,5] [(0,false),(2,false),(1,false),(3,true),(4,true),(5,false)] ah ah aq rfl ah (y8) ?_;(iterate 3 refine hwr ?_);refine hwt fun K hK=>?_;go_simp;have jy:=aa (lD.o.trans (dX.jo.mono lD.o.size));refine(HV.o _ jy.o).mono ?_;rintro e w9 ⟨rfl,ZL,l9⟩;have je:=aa (jy.o.trans (l9.mono jy.o.size));have y9:=Jk.o w9 je.o;have HF9:=aa ZL;clear l9 ZL;refine hK.o _ _ (y9) ?_;clear hK K;refine hwt fun K hK=>?_;go_simp;refine(CP.o DV.o _ w9 je.o HF9.o).mono ?_;rintro e wa ⟨rfl,hba⟩;have Ih:=aa (je.o.trans (hba.mono je.o.size));clear hba;refine hK.o _ _ (Jk.o wa Ih.o) ?_;clear hK K;refine hwr ?_;refine eD ?_;(try go_frame);clear y8 y9 HF9;cases vb with
    |true=>
     have wu:=aa (show r=1 by rw[HR.o];rfl);clear HR;go_wp2;exact HP.o (.returned (bU 1)) _ ⟨by rw[wu.o],WM.o _ Ih.o⟩
    |false=>
     have wu:=aa (show r=0 by rw[HR.o];rfl);clear HR;go_wp2;exact HP.o (.returned (bU 0)) _ ⟨by rw[wu.o],WM.o _ Ih.o⟩
section
def Ec (fs:List cL):Nat→List Int→Nat→Bool×List Int
 |0,st,_=>(false,st)
 |k+1,st,i=>if st.getD i 0=0 then
  (match fs[i]? with
  |none=>(false,st)
  |some f=>
   let r:=jr (fun s x=>if x.op=3 then Ec fs k s (findF fs x.name).toNat else(false,s)) (st.set i 1) f.body
   (r.1,r.2.set i 2))
  else(st.getD i 0==1,st)
def yo (fs:List cL) (k:Nat) (s:List Int) (x:cw):Bool×List Int:=if x.op=3 then Ec fs k s (findF fs x.name).toNat else(false,s)
def zeros (st:List Int):Nat:=st.countP (· ==0)
theorem yt {st:List Int} {i:Nat} (z:Int) (hz:z≠0):zeros (st.set i z)≤zeros st:=by
 induction st generalizing i with
 |nil=>simp[zeros]
 |cons a l ih=>
  cases i with
  |zero=>simp only[List.set_cons_zero,zeros,List.countP_cons];split<;>split<;>simp_all<;>omega
  |succ i=>have:=ih (i:=i);simp only[List.set_cons_succ,zeros,List.countP_cons]at this ⊢;omega
theorem CQ {st:List Int} {i:Nat} (hi:i<st.length) (h0:st.getD i 0=0) (z:Int) (hz:z≠0):zeros (st.set i z)<zeros st:=by
 induction st generalizing i with
 |nil=>simp at hi
 |cons a l ih=>
  cases i with
  |zero=>simp at h0;subst h0;simp only[List.set_cons_zero,zeros,List.countP_cons];simp[hz]
  |succ i=>have:=ih (i:=i) aX aS;simp only[List.set_cons_succ,zeros,List.countP_cons]at this ⊢;omega
theorem Mm {σ α:Type} {p:σ→α→Bool×σ} (I:σ→Prop) (l:List α) (h:∀ y∈l,∀ s,I s→I (p s y).2):∀ s,I s→I (anyM p s l).2:=by
 induction l with
 |nil=>intro s hs;exact hs
 |cons y l ih=>
  intro s hs;have h1:=h y ai s hs;cases hb:(p s y).1 with
  |true=>rw[qo hb];exact h1
  |false=>rw[oF hb];exact ih (fun y hy=>h y (by simp[hy])) _ h1
theorem Jl {σ:Type} {p:σ→cw→Bool×σ} (I:σ→Prop) (h:∀ s y,I s→I (p s y).2) (N:Nat):∀ (x:cw),cE x≤N→∀ s,I s→I (jr p s x).2:=by
 induction N with
 |zero=>intro x hx;have:=dB x;omega
 |succ N ih=>
  intro x hx s hs;cases x with
  |mk op n u nm args=>
   have hn:cE (.mk op n u nm args)=1+cT args:=aM;have h1:=h s (.mk op n u nm args) hs;cases hb:(p s (.mk op n u nm args)).1 with
   |true=>rw[qV hb];exact h1
   |false=>rw[pJ hb];exact Mm I args (fun y hy s hs=>ih y (by have:=dP args y hy;omega) s hs) _ h1
theorem E2 (fs:List cL) (m z:Nat):∀ (k:Nat) (st:List Int) (i:Nat),st.length=m∧zeros st≤z→(Ec fs k st i).2.length=m∧zeros (Ec fs k st i).2≤z:=by
 intro k;induction k with
 |zero=>intro st i h;exact h
 |succ k ih=>
  intro st i h;unfold Ec;split
  ·split
   (·exact h);next f _=>
   have h1:=Jl (p:=yo fs k) (fun s:List Int=>s.length=m∧zeros s≤z) (fun s y hs=>by unfold yo;split;exact ih _ _ hs;exact hs) (cE f.body) f.body aac (st.set i 1) ⟨by simpa using h.1,aaC (yt 1 ak) h.2⟩;refine⟨?_,aaC (yt 2 ak) h1.2⟩;show(List.set _ i 2).length=m;rw[List.length_set];exact h1.1
  exact h
theorem lq {S:Nat→Prop} {W:World} {b i:Nat} {u:Value} (hb:¬S b):cB S W (W.setCell (bY b i) u):=
 ⟨by simp[World.setCell],fun c hc hs=>aae W (bY b i) u c (fun e=>hb (by have e2:c=b:=e;exact e2▸hs))⟩
structure jM (W0:World) (pc gs:Nat) (A:Option Addr) (c:Nat) (fs:List cL) (z:Nat) (st:List Int) (W:World):Prop where
 mj:b_ W pc 0 (bW A fs c)
 CR:b_ W pc 1 (bW (bY gs 0) fs fs)
 blk:cN W gs 3 (st.map fun n=>bU n)
 len:st.length=fs.length
 sQ:pc<W.heap.size
 A_:gs<W.heap.size
 ne:pc≠gs
 sq:Sq gR W (fun b=>b≠gs) A fs
 zs:zeros st≤z
 low:Below gs W0 W
section
variable {W0:World} {pc gs:Nat} {A:Option Addr} {c z:Nat} {fs:List cL} {st:List Int} {W W':World}
theorem jM.bZ (h:jM W0 pc gs A c fs z st W) (hb:Below W W W'):jM W0 pc gs A c fs z st W':=
 ⟨(hb.cell (p:=bY pc 0) h.sQ).trans h.mj,(hb.cell (p:=bY pc 1) h.sQ).trans h.CR,h.blk.bZ hb h.A_,h.len,aaD h.sQ hb.size,aaD h.A_ hb.size,h.ne,h.sq.bZ hb,h.zs,h.low.trans (hb.mono (Nat.le_of_lt h.A_))⟩
theorem jM.less (h:jM W0 pc gs A c fs z st W) {y:Nat} (hy:zeros st≤y):jM W0 pc gs A c fs y st W:=⟨h.mj,h.CR,h.blk,h.len,h.sQ,h.A_,h.ne,h.sq,hy,h.low⟩
theorem jM.set (h:jM W0 pc gs A c fs z st W) (i:Nat) (n:Int) (hn:n≠0):jM W0 pc gs A c fs z (st.set i n) (W.setCell (bY gs i) (bU n))∧cB (fun b=>b≠gs) W (W.setCell (bY gs i) (bU n)):=by
 have K:cB (fun b=>b≠gs) W (W.setCell (bY gs i) (bU n)):=lq ai;have hsz:(W.setCell (bY gs i) (bU n)).heap.size=W.heap.size:=bH;refine⟨⟨?_,?_,?_,by simpa using h.len,by rw[hsz];exact h.sQ,by rw[hsz];exact h.A_,h.ne,h.sq.keep K,aaC (yt n hn) h.zs,h.low.setCell aac _⟩,K⟩
 (·exact(World.cell?_of_block (a:=bY pc 0) (K.2 pc h.sQ h.ne)).trans h.mj)
 (·exact(World.cell?_of_block (a:=bY pc 1) (K.2 pc h.sQ h.ne)).trans h.CR);have:=h.blk.eB i (bU n);rw[List.map_set];exact this
theorem jM.state (h:jM W0 pc gs A c fs z st W) {i:Nat} (hi:i<fs.length):b_ W gs i (bU (st.getD i 0)):=by
 have hi':i<st.length:=(by rw[h.len];exact hi);rw[h.blk.cell i,List.getElem?_map,List.getElem?_eq_getElem hi',aam,List.getElem?_eq_getElem hi'];rfl
end
theorem Jm {fs:List cL} {k i:Nat} {st:List Int} (h:¬st.getD i 0=0):Ec fs (k+1) st i=(st.getD i 0==1,st):=by unfold Ec;rw[if_neg h]
theorem Oo {fs:List cL} {k i:Nat} {st:List Int} (hi:i<fs.length) (h:st.getD i 0=0):Ec fs (k+1) st i=((jr (yo fs k) (st.set i 1) fs[i].body).1,(jr (yo fs k) (st.set i 1) fs[i].body).2.set i 2):=by
 (conv=>lhs;unfold Ec);rw[if_pos h,List.getElem?_eq_getElem hi];rfl
theorem Jn:∀ args w,(callFunc 132 args).run prog w= .ok (.enter 132 args) w:=enters_of func132 ah rfl
theorem t_ {fs:List cL} {nm:ByteArray} (h:¬findF fs nm<0):findF fs nm=((findF fs nm).toNat:Int)∧(findF fs nm).toNat<fs.length:=by
 have:=Gd (Lb nm) fs;change findF fs nm<_ at this;omega
theorem Ti (W0:World) (pc gs q:Nat) (A:Option Addr) (c z k:Nat) (fs:List cL) (hl:fs.length≤1000000000) (hz:z<k)
 (ih:∀ (st:List Int) (i:Nat) (W:World),i<fs.length→jM W0 pc gs A c fs z st W→Calls prog 81 #[.pointer (bY pc 0),bU i] W (kG (fun b=>b≠gs) (jM W0 pc gs A c fs z) (Ec fs k st i) W)):
 Zm 132 #[.pointer (bY q 0)] (fun b=>b≠gs) (fun x=>dK (j7 fs) x=false) (yo fs k) (fun s W=>jM W0 pc gs A c fs z s W∧b_ W q 0 (.pointer (bY pc 0))∧q<W.heap.size∧q≠gs) where
 enters:=Jn
 bZ h hb:=⟨h.1.bZ hb,(hb.cell (p:=bY q 0) h.2.2.1).trans h.2.1,aaD h.2.2.1 hb.size,h.2.2.2⟩
 new h b hb:=by have:=h.1.A_;omega
 call s W cs y hy hst hI:=by
  obtain⟨h1,h2,h3,h4⟩:=hst;have hk:=jD hy;obtain⟨op,n,un,nm,B,k2,ar,e1,e2,_⟩:=hI.parts;subst e1 e2;generalize hP:kG (fun b=>b≠gs) (fun s W=>jM W0 pc gs A c fs z s W∧b_ W q 0 (.pointer (bY pc 0))∧q<W.heap.size∧q≠gs) (yo fs k s (.mk op n un nm ar)) W=P;have HP:=aa (show ∀ e w',kG (fun b=>b≠gs) (fun s W=>jM W0 pc gs A c fs z s W∧b_ W q 0 (.pointer (bY pc 0))∧q<W.heap.size∧q≠gs) (yo fs k s (.mk op n un nm ar)) W e w'→P e w' from fun e w' h=>hP▸h);clear hP;generalize hW1:W.alloc (.cells #[bU op,bU n,bV un,bV nm,bW B ar k2] 47)=W1;have hBw:Below W W W1:=(by rw[← hW1];exact cS _);have HB:=aa hBw;have E3:=aa (h1.bZ hBw);have HX:=aa (And.intro h2 (And.intro h3 h4));show Calls prog 132 #[.agg #[bU op,bU n,bV un,bV nm,bW B ar k2],.pointer (bY q 0)] W P;by_cases ho:op=3
  ·subst ho;have hnn:¬findF fs nm<0:=by
    have h9:((3:Int)==3&&decide (findF fs nm<0))=false:=hk;intro h8;rw[decide_eq_true h8]at h9;cases h9
   obtain⟨jw,hf2⟩:=t_ hnn;have uo:=aa (fun W' (hb:Below W1 W1 W')=>qq A c fs nm W' ((E3.o.bZ hb).sq.mono fun _ _ _=>trivial) aH);rw[jw]at uo;have HT:=aa (fun W' (hb:Below W1 W1 W')=>ih s (findF fs nm).toNat W' hf2 (E3.o.bZ hb));have HTP:=aa (show yo fs k s (.mk 3 n un nm ar)=Ec fs k s (findF fs nm).toNat from rfl);generalize Ec fs k s (findF fs nm).toNat=r at HT HTP;generalize (findF fs nm).toNat=j at uo HT;have c1:b_ W1 W 0 (bU 3)∧b_ W1 W 3 (bV nm)∧b_ W1 q 0 (.pointer (bY pc 0))∧b_ W1 pc 0 (bW A fs c):=
    ⟨by rw[← hW1];simp[go_sem],by rw[← hW1];simp[go_sem],(hBw.cell (p:=bY q 0) h3).trans h2,E3.o.mj⟩
   have hq1:q<W1.heap.size:=aaD h3 hBw.size;have hp1:W.heap.size<W1:=bF;have HS:=aa (fun W' (hb:Below W1 W1 W')=>And.intro ((hb.cell (p:=bY W 0) hp1).trans c1.1) (And.intro ((hb.cell (p:=bY W 3) hp1).trans c1.2.1) (And.intro ((hb.cell (p:=bY q 0) hq1).trans c1.2.2.1) ((hb.cell (p:=bY pc 0) E3.o.sQ).trans c1.2.2.2))));(have D8:W.heap.size≠gs:=by have:=h1.A_;omega);have HN:=aa (And.intro hp1 (And.intro hq1 D8));clear ih hk D8 hnn jw hf2 h1 h2 h3 h4 hI hy hBw hp1;go_enter func132,ntmps132;go_wp2_with fail;refine cV (S:=fun w'=>b_ w' W 0 (bU 3)∧b_ w' W 3 (bV nm)∧b_ w' q 0 (.pointer (bY pc 0))∧b_ w' pc 0 (bW A fs c)) [0,1,2,3,4,5,9,6,10,7,8,13,14] [(0,false),(1,false),(2,false),(3,false),(4,false),(5,false),(9,false),(6,false),(10,false),(7,false),(8,false),(11,true),(12,true),(13,false),(14,false)] ah ah aq rfl ah (c1) ?_;(iterate 11 refine hwr ?_);refine hwt fun K hK=>?_;go_simp;refine(uo.o _ dX.jo).mono ?_;rintro e w2 ⟨rfl,hb2⟩;have dG:=aa (dX.jo.trans (hb2.mono dX.jo.size));have c2:=HS.o w2 dG.o;clear hb2;refine hK.o _ _ (c2) ?_;clear hK K;refine hwt fun K hK=>?_;go_simp;refine(HT.o w2 dG.o).mono ?_;rintro e w3 ⟨rfl,WO,hk3⟩;have Tj:=aa (And.intro WO hk3);have K3:=aa (fun b (hb:b<W1.heap.size) (hn:b≠gs)=>hk3.2 b (aaD hb dG.o.size) hn);clear WO hk3;refine hK.o _ _ (⟨(World.cell?_of_block (a:=bY W 0) (K3.o _ HN.o.1 HN.o.2.2)).trans c2.1,(World.cell?_of_block (a:=bY W 3) (K3.o _ HN.o.1 HN.o.2.2)).trans c2.2.1,(World.cell?_of_block (a:=bY q 0) (K3.o _ HN.o.2.1 HX.o.2.2)).trans c2.2.2.1,Tj.o.1.mj⟩) ?_;clear hK K;refine hwr ?_;refine hwr ?_;refine eD ?_;(try go_frame);clear c1 c2;go_wp2_with fail;refine HP.o (.returned (.bool r.1)) _ ?_;rw[HTP.o];have hk:=(cB.cA HB.o).trans ((cB.cA dG.o).trans Tj.o.2);exact⟨rfl,⟨Tj.o.1,(World.cell?_of_block (a:=bY q 0) (hk.2 q HX.o.2.1 HX.o.2.2)).trans HX.o.1,aaD HX.o.2.1 hk.1,HX.o.2.2⟩,hk⟩
  have h3':(op==3)=false:=bE;have HTP:=aa (show yo fs k s (.mk op n un nm ar)=(false,s)from if_neg ho);have c0:b_ W1 W 0 (bU op):=aA;clear ih hk h1 h2 h3 h4 hI hy hBw;go_enter func132,ntmps132;go_wp2_with fail;go_quiet (fail);have hdr:Below W1 W1 (W1.drewN nq):=⟨rfl,rfl,rfl,aaB _,fun _ _=>rfl⟩;have HU:=aa (HB.o.trans (hdr.mono HB.o.size));have Oi:=aa (E3.o.bZ hdr);generalize W1.drewN nq=wa at HU Oi;clear c0 hdr;go_wp2_with fail;refine HP.o (.returned (.bool false)) _ ?_;rw[HTP.o];exact⟨rfl,⟨Oi.o,(HU.o.cell (p:=bY q 0) HX.o.2.1).trans HX.o.1,aaD HX.o.2.1 HU.o.size,HX.o.2.2⟩,cB.cA HU.o⟩
def Jo (fs:List cL):Prop:=∀ f∈fs,dK (j7 fs) f.body=false∧cE f.body≤1000000
theorem Tk (W0:World) (pc gs:Nat) (A:Option Addr) (c:Nat) (fs:List cL) (hl:fs.length≤1000000000) (Z4:Jo fs) (k:Nat):∀ (z:Nat) (st:List Int) (i:Nat) (w:World),z<k→i<fs.length→jM W0 pc gs A c fs z st w→Calls prog 81 #[.pointer (bY pc 0),bU i] w (kG (fun b=>b≠gs) (jM W0 pc gs A c fs z) (Ec fs k st i) w):=by
 induction k with
 |zero=>intro z st i w hz;omega
 |succ k ih=>
  intro z st i w hz hi hC;generalize hP:kG (fun b=>b≠gs) (jM W0 pc gs A c fs z) (Ec fs (k+1) st i) w=P;have HP:=aa (show ∀ e w',kG (fun b=>b≠gs) (jM W0 pc gs A c fs z) (Ec fs (k+1) st i) w e w'→P e w' from fun e w' h=>hP▸h);clear hP;have hb1:Below w w (w.alloc (.cells #[.pointer (bY pc 0)] 153)):=cS _;have hC1:=hC.bZ hb1;have k0:=heap_alloc_new w (.cells #[.pointer (bY pc 0)] 153);(have hqg:w.heap.size≠gs:=by have:=hC.A_;omega);have hqz:w.heap.size<(w.alloc (.cells #[.pointer (bY pc 0)] 153)).heap.size:=aJ;have gT:=aa hb1;have c0:(w.alloc (.cells #[.pointer (bY pc 0)] 153)).cell? (bY w 0)=some (.pointer (bY pc 0)):=cN.cell k0 0;have c1:=hC1.CR;have c2:=hC1.mj;have c3:=hC1.state hi;have f3:=hC1.blk.frozen i;have E3:=aa hC1;have hiz:(i:Int)<(fs.length:Int):=af;clear hb1 k0 hC hC1;by_cases hv:st.getD i 0=0
  (·have HTH:=aa (Oo (k:=k) hi hv);have HZ:=aa (CQ (st:=st) (i:=i) (by rw[E3.o.len];exact hi) hv 1 ak);rw[hv]at c3;obtain⟨b,o,cs,hA,Yy,hbl,ey,cM⟩:=E3.o.sq.get hi;subst hA;have HBO:=aa (Z4 _ (aan hi));have ua:=aa (Ti W0 pc gs w (bY b o) c (z - 1) k fs hl (by have:=HZ.o;have:=E3.o.zs;omega) fun st i W hi h=>ih (z - 1) st i W (by have:=HZ.o;have:=E3.o.zs;omega) hi h);generalize fs[i]=f at ey HBO HTH;obtain⟨FA,fd,es,e,_,hie⟩:=ey;have HX:=aa hie;obtain⟨op,n,un,nm,A2,c4,ar,_,hes,_⟩:=hie.parts;subst hes e;have g2:=cM 2 _ rfl;have g3:=cM 3 _ rfl;have g4:=cM 4 _ rfl;have g5:=cM 5 _ rfl;have g6:=cM 6 _ rfl;obtain⟨Oq,hK2⟩:=E3.o.set i 1 ak;have Oq:jM W0 pc gs (bY b o) c fs (z - 1) (st.set i 1) _:=⟨Oq.mj,Oq.CR,Oq.blk,Oq.len,Oq.sQ,Oq.A_,Oq.ne,Oq.sq,by have:=HZ.o;have:=E3.o.zs;omega,Oq.low⟩;generalize hw1:w.alloc (.cells #[.pointer (bY pc 0)] 153)=w1 at*;have K2:=fun(b:Nat) (j:Nat) (h1:b<w1.heap.size) (h2:b≠gs)=>World.cell?_of_block (a:=bY b j) (hK2.2 b h1 h2);have hz2:(w1.setCell (bY gs i) (bU 1)).heap.size=w1.heap.size:=bH;have HK:=aa ((cB.cA gT.o).trans hK2);have vK:=aa (EJ ua.o (fun x hx y hy=>kr hx hy) 1000000 aac f.body HBO.o.1 HBO.o.2 (st.set i 1) _ _ ⟨Oq,(K2 w 0 hqz hqg).trans c0,by rw[hz2];exact hqz,hqg⟩ (HX.o.keep hK2));have d0:=(K2 w 0 hqz hqg).trans c0;have d1:=Oq.CR;have d2:=Oq.mj;have e2:=(K2 b (o+i*7+2) hbl Yy).trans g2;have e3:=(K2 b (o+i*7+3) hbl Yy).trans g3;have e4:=(K2 b (o+i*7+4) hbl Yy).trans g4;have e5:=(K2 b (o+i*7+5) hbl Yy).trans g5;have e6:=(K2 b (o+i*7+6) hbl Yy).trans g6;have D:=aa (And.intro d0 (And.intro d1 (And.intro d2 (And.intro e2 (And.intro e3 (And.intro e4 (And.intro e5 e6)))))));generalize jr (yo fs k) (st.set i 1) f.body=r at vK HTH;clear K2 hK2 Oq ua HX HBO HZ g2 g3 g4 g5 g6 cM ih Z4 hz2 d0 d1 d2 e2 e3 e4 e5 e6 hqz;go_enter func81,ntmps81;go_upto_region 4 with fail;generalize (w1.setCell (bY gs i) (bU 1))=w2 at D vK HK ⊢;obtain⟨d0,d1,d2,e2,e3,e4,e5,e6⟩:=D.o;clear D c0 c1 c2 c3 f3;go_wp2_with fail;refine vK.o.mono ?_;rintro e w3 ⟨rfl,⟨hC3,WO,hz3,_⟩,hK3⟩;have c1:=hC3.CR;have c3:=hC3.state hi;have f3:=hC3.blk.frozen i;generalize r.2.getD i 0=v3 at c3;have HC3:=aa hC3;have Bt:=aa (HK.o.trans hK3);clear hC3 hK3 hz3 d0 d1 d2 e2 e3 e4 e5 e6;go_wp2_with fail;refine HP.o (.returned (.bool r.1)) _ ?_;rw[HTH.o];have h9:=HC3.o.set i 2 ak;exact⟨rfl,h9.1.less (by have:=h9.1.zs;omega),Bt.o.trans h9.2⟩);have HTH:=aa (Jm (fs:=fs) (k:=k) hv);generalize st.getD i 0=v at c3 hv HTH;have Y1:(v != 0)=true:=(by simpa using hv);clear hv f3 ih Z4 hqg hqz;go_enter func81,ntmps81;go_wp2_with fail;refine HP.o (.returned (.bool (v==1))) _ ?_;rw[HTH.o];exact⟨rfl,E3.o,cB.cA gT.o⟩
end
def nK (fs:List cL):List cL→Int
 |[]=>0
 |f :: l=>if nJ fs f=0 then nK fs l else nJ fs f
def Gw (fs:List cL):Bool:=(anyM (fun st i=>Ec fs (fs.length+1) st i) (aaw fs.length 0) (aav fs.length)).1
def gU (fs:List cL):Int:=if 100<fs.length then 6 else if nK fs fs=0 then(if Gw fs then 23 else 0)else nK fs fs
structure yu (fs:List cL):Prop where
 one:∀ f∈fs,NY f∧cE f.body≤1000000∧∀ q∈f.params,cR q.unit=true
 find:∀ (i:Nat) (h:i<fs.length),findF fs fs[i].name=(i:Int)
theorem Jp {fs l:List cL} {k:Nat} (hk:k<l.length):nK fs (l.drop k)=if nJ fs l[k]=0 then nK fs (l.drop (k+1))else nJ fs l[k]:=by
 rw[aah hk];rfl
theorem pN {fs:List cL}:∀ {l:List cL},nK fs l=0→∀ f∈l,nJ fs f=0
 |[],_,f,hf=>by simp at hf
 |a :: l,h,f,hf=>by
  unfold nK at h;by_cases h0:nJ fs a=0
  ·rw[if_pos h0]at h;rcases aas.1 hf with rfl|hf
   (·exact h0);exact pN h f hf
  rw[if_neg h0]at h;exact absurd h h0
theorem sR {fs:List cL} {f:cL} (h:nJ fs f=0):qD f.params f.params.length=false∧dK (iU f.params) f.body=false∧dK (j7 fs) f.body=false∧dK (j8 fs) f.body=false:=by
 unfold nJ at h;cases h1:qD f.params f.params.length with
 |true=>rw[h1]at h;simp at h
 |false=>
  cases h2:dK (iU f.params) f.body with
  |true=>rw[h1,h2]at h;simp at h
  |false=>
   cases h3:dK (j7 fs) f.body with
   |true=>rw[h1,h2,h3]at h;simp at h
   |false=>
    cases h4:dK (j8 fs) f.body with
    |true=>rw[h1,h2,h3,h4]at h;simp at h
    |false=>exact⟨rfl,rfl,rfl,rfl⟩
theorem uW (A:Option Addr) (c:Nat) (fs:List cL) (w:World) (hs:Sq gR w Any A fs) (hF:yu fs) (hl:fs.length≤1000000):Calls prog 36 #[bW A fs c] w (qp (gU fs) w):=by
 generalize hP:qp (gU fs) w=P;have HP:=aa (show ∀ e w',qp (gU fs) w e w'→P e w' from fun e w' h=>hP▸h);clear hP;have HS:=aa hs;have HF:=aa hF;clear hs hF;by_cases Tl:100<fs.length
 (·have HR:=aa (show gU fs=6 from if_pos Tl);have h1:decide ((fs.length:Int)>100)=true:=au;have h2:decide ((100:Int)<(fs.length:Int))=true:=au;clear Tl;go_enter func36,ntmps36;go_wp2;exact HP.o (.returned (bU 6)) _ ⟨by rw[HR.o],aaf _ _⟩);have HR:=aa (show gU fs=if nK fs fs=0 then(if Gw fs then 23 else 0)else nK fs fs from if_neg Tl);have h2:decide ((100:Int)<(fs.length:Int))=false:=au;go_enter func36,ntmps36;go_wp2;go_loopw [12] (fun s12 wr=>∃ k:Nat,k≤fs.length∧s12=bU (k:Int)∧Hid (Below w w wr)∧Hid (nK fs fs=nK fs (fs.drop k))) (fun s12 _=>fs.length - (intOf s12).toNat);(case atStart=>exact⟨0,aaG _,rfl,aa (aaf _ _),aa (by rw[List.drop_zero])⟩);obtain⟨k,hk,rfl,HB,HA⟩:=hrel;by_cases hlt:k<fs.length
 ·have HC:=aa (Mk A c fs wr k (HS.o.bZ HB.o) af hlt (HF.o.one _ (aan hlt)).1 (HF.o.find k hlt) (HF.o.one _ (aan hlt)).2.1 (HF.o.one _ (aan hlt)).2.2);have rY:=aa (HA.o.trans (Jp hlt));generalize nJ fs fs[k]=z at HC rY;go_wp2_with fail;refine HC.o.mono ?_;rintro e w2 ⟨rfl,hb2⟩;have dG:=aa (HB.o.trans (hb2.mono HB.o.size));clear hb2 HC HA;by_cases hz:z=0
  (·subst hz;have zR:=aa (rY.o.trans (if_pos rfl));clear rY;go_wp2;go_roundw;exact⟨k+1,by omega,rfl,dG,zR⟩;simp[intOf];omega);have hz1:(z != 0)=true:=(by simpa using hz);have zR:=aa (rY.o.trans (if_neg hz));have wu:=aa (show gU fs=z by rw[HR.o,zR.o,if_neg hz]);clear rY zR hz;go_wp2;exact HP.o (.returned (bU z)) _ ⟨by rw[wu.o],dG.o⟩
 (obtain rfl:k=fs.length:=by omega);have h0:nK fs fs=0:=(by rw[HA.o,List.drop_length];rfl);have wu:=aa (show gU fs=if Gw fs then 23 else 0 by rw[HR.o,if_pos h0]);have Lf:=aa (show Jo fs from fun f hf=>⟨(sR (pN h0 f hf)).2.2.1,(HF.o.one f hf).2.1⟩);have hmk:∀ W:World,(Instr.makeSlice 38 (bU (fs.length:Int)) (bU (fs.length:Int))).run prog W= .ok (bW (bY W 0) fs fs) (W.alloc (.cells ((aaw fs.length (bU 0)).toArray) 3)):=fun W=>by
  have:=run_make_row' (P:=prog) 38 3 (bU 0) 8 underlying38 wB rfl .i64 .i64 fs.length af af W;rw[tN]at this;exact this
 have hC:Hid (jM wr (wr+1) wr A c fs fs.length (aaw fs.length 0) ((wr.alloc (.cells ((aaw fs.length (bU 0)).toArray) 3)).alloc (.cells #[bW A fs c,bW (bY wr 0) fs fs] 155))):=by
  have hb1:Below wr wr (wr.alloc (.cells ((aaw fs.length (bU 0)).toArray) 3)):=cS _;have hb2:=hb1.alloc ai (.cells #[bW A fs c,bW (bY wr 0) fs fs] 155);have k2:=heap_alloc_new (wr.alloc (.cells ((aaw fs.length (bU 0)).toArray) 3)) (.cells #[bW A fs c,bW (bY wr 0) fs fs] 155);rw[show(wr.alloc (.cells ((aaw fs.length (bU 0)).toArray) 3)).heap.size=wr.heap.size+1 by simp]at k2;refine aa ⟨cN.cell k2 0,cN.cell k2 1,?_,by simp,by rw[aaI,aaI];omega,by rw[aaI,aaI];omega,by omega,?_,?_,hb2⟩
  (·rw[List.map_replicate];exact(heap_alloc_old _ _ ai).trans (heap_alloc_new wr _))
  (·exact((HS.o.bZ HB.o).mono (S':=fun b=>b≠wr.heap.size) fun b hb _=>by omega).bZ hb2);exact aaC List.countP_le_length ai
 have hsz:(wr.alloc (.cells ((aaw fs.length (bU 0)).toArray) 3)).heap.size=wr.heap.size+1:=ai;have har:(aaw fs.length (bU 0)).toArray=aad fs.length (bU 0):=ai;rw[har]at hC;clear HA h0 HR har;go_wp2_with fail;generalize ((wr.alloc (.cells (aad fs.length (bU 0)) 3)).alloc (.cells #[bW A fs c,bW (bY wr 0) fs fs] 155))=wx at hC ⊢;clear hmk hsz;obtain⟨p,hp⟩:∃ p:List Int→Nat→Bool×List Int,p=fun st i=>Ec fs (fs.length+1) st i:=⟨_,rfl⟩;have HT:=aa (fun(k:Nat) (st:List Int) (W:World) (hk:k<fs.length) (h:jM wr (wr+1) wr A c fs fs.length st W)=>
  (hp▸Tk wr (wr+1) wr A c fs af Lf.o (fs.length+1) fs.length st k W af hk h:Calls prog 81 #[.pointer (bY (wr+1) 0),bU k] W (kG (fun b=>b≠wr.heap.size) (jM wr (wr+1) wr A c fs fs.length) (p st k) W)))
 have HY:=aa (show Gw fs=(anyM p (aaw fs.length 0) (aav fs.length)).1 by rw[hp];rfl);clear hp Lf;go_loopw [6,30] (fun v6 Z5 wq=>∃ (k:Nat) (st:List Int),k≤fs.length∧Z5=bU (k:Int)∧Hid (jM wr (wr+1) wr A c fs fs.length st wq)∧Hid (Gw fs=(anyM p st ((aav fs.length).drop k)).1)) (fun _ Z5 _=>fs.length - (intOf Z5).toNat);(case atStart=>exact⟨0,_,aaG _,rfl,hC,aa (by rw[List.drop_zero];exact HY.o)⟩);clear hC HY;obtain⟨k,st,hk,rfl,HC,HA⟩:=hrel;by_cases hlt:k<fs.length
 ·(have hdr:(aav fs.length).drop k=k :: (aav fs.length).drop (k+1):=by rw[aah (by simpa using hlt),List.getElem_range]);rw[hdr]at HA;have nZ:=aa (HT.o k st _ hlt HC.o);clear hdr;go_wp2_with fail;refine nZ.o.mono ?_;rintro e w3 ⟨rfl,h3,_⟩;have HC3:=aa h3;clear h3 HC nZ;cases hb:(p st k).1 with
  |true=>
   have HR3:=aa (show gU fs=23 by rw[wu.o,HA.o,qo hb];rfl);clear hb HA wu;go_wp2;exact HP.o (.returned (bU 23)) _ ⟨by rw[HR3.o],HB.o.trans (HC3.o.low.mono HB.o.size)⟩
  |false=>
   have zR:=aa (show Gw fs=(anyM p (p st k).2 ((aav fs.length).drop (k+1))).1 by rw[HA.o,oF hb]);clear hb HA;go_wp2;go_roundw;exact⟨k+1,_,by omega,rfl,HC3,zR⟩;simp[intOf];omega
 (obtain rfl:k=fs.length:=by omega);have HR3:=aa (show gU fs=0 by rw[wu.o,HA.o,List.drop_eq_nil_of_le ai];rfl);clear HA wu;go_wp2;exact HP.o (.returned (bU 0)) _ ⟨by rw[HR3.o],HB.o.trans (HC.o.low.mono HB.o.size)⟩
section
mutual
def fT (fs:List cL):cw→List Nat
 | .mk op _ _ nm l=>(if op=3 then[(findF fs nm).toNat]else[])++uX fs l
def uX (fs:List cL):List cw→List Nat
 |[]=>[]
 |y :: l=>fT fs y++uX fs l
end
theorem CS {fs:List cL} {l:List cw} {j:Nat} (h:j∈uX fs l):∃ y∈l,j∈fT fs y:=by
 induction l with
 |nil=>unfold uX at h;simp at h
 |cons y l ih=>
  unfold uX at h;rcases aar.1 h with h|h
  (·exact⟨y,by simp,h⟩);obtain⟨z,hz,h2⟩:=ih h;exact⟨z,by simp[hz],h2⟩
theorem yw {fs:List cL} {l:List cw} {y:cw} (hy:y∈l) {j:Nat} (h:j∈fT fs y):j∈uX fs l:=by
 induction l with
 |nil=>simp at hy
 |cons z l ih=>
  unfold uX;rcases aas.1 hy with rfl|hy
  (·exact List.mem_append_left _ h);exact List.mem_append_right _ (ih hy)
structure rq (fs:List cL) (st:List Int):Prop where
 len:st.length=fs.length
 vals:∀ i,st.getD i 0=0∨st.getD i 0=1∨st.getD i 0=2
 PI:∃ r:Nat→Nat,∀ (i:Nat) (f:cL),st.getD i 0=2→fs[i]? =some f→∀ j∈fT fs f.body,st.getD j 0=2∧r j<r i
def CT (fs:List cL) (st st':List Int):Prop:=rq fs st'∧(∀ i,st.getD i 0=2→st'.getD i 0=2)∧(∀ i,st'.getD i 0=1↔st.getD i 0=1)
theorem CT.refl {fs:List cL} {st:List Int} (h:rq fs st):CT fs st st:=⟨h,fun _ h=>h,fun _=>Iff.rfl⟩
theorem CT.trans {fs:List cL} {a b c:List Int} (h:CT fs a b) (k:CT fs b c):CT fs a c:=⟨k.1,fun i hi=>k.2.1 i (h.2.1 i hi),fun i=>(k.2.2 i).trans (h.2.2 i)⟩
theorem gV {st:List Int} {i j:Nat} {z:Int} (hi:i<st.length):(st.set i z).getD j 0=if j=i then z else st.getD j 0:=by
 rw[aam,aam,List.getElem?_set];by_cases h:i=j
 (·subst h;simp[hi]);rw[if_neg h,if_neg (fun e=>h e.symm)]
theorem E4 {fs:List cL} {z:Nat} {α:Type} {p:List Int→α→Bool×List Int} {D:α→List Nat} (l:List α) (h:∀ y∈l,∀ s,rq fs s→zeros s≤z→(p s y).1=false→CT fs s (p s y).2∧zeros (p s y).2≤z∧∀ j∈D y,(p s y).2.getD j 0=2):∀ s,rq fs s→zeros s≤z→(anyM p s l).1=false→CT fs s (anyM p s l).2∧zeros (anyM p s l).2≤z∧∀ y∈l,∀ j∈D y,(anyM p s l).2.getD j 0=2:=by
 induction l with
 |nil=>intro s hs hz _;exact⟨.refl hs,hz,fun y hy=>by simp at hy⟩
 |cons y l ih=>
  intro s hs hz hn;cases hb:(p s y).1 with
  |true=>rw[qo hb]at hn;cases hn
  |false=>
   rw[oF hb]at hn ⊢;obtain⟨h1,hz1,h2⟩:=h y ai s hs hz hb;obtain⟨h3,hz3,h4⟩:=ih (fun z hz=>h z (by simp[hz])) _ h1.1 hz1 hn;refine⟨h1.trans h3,hz3,fun z hz j hj=>?_⟩;rcases aas.1 hz with rfl|hz
   (·exact h3.2.1 j (h2 j hj));exact h4 z hz j hj
theorem Mn {fs:List cL} {z:Nat} {p:List Int→cw→Bool×List Int} (h:∀ (op n:Int) (u nm:ByteArray) (l:List cw) (s:List Int),j7 fs (.mk op n u nm l)=false→rq fs s→zeros s≤z→(p s (.mk op n u nm l)).1=false→CT fs s (p s (.mk op n u nm l)).2∧zeros (p s (.mk op n u nm l)).2≤z∧(op=3→(p s (.mk op n u nm l)).2.getD (findF fs nm).toNat 0=2)) (N:Nat):∀ (x:cw),cE x≤N→dK (j7 fs) x=false→∀ s,rq fs s→zeros s≤z→(jr p s x).1=false→CT fs s (jr p s x).2∧zeros (jr p s x).2≤z∧∀ j∈fT fs x,(jr p s x).2.getD j 0=2:=by
 induction N with
 |zero=>intro x hx;have:=dB x;omega
 |succ N ih=>
  intro x hx hu s hs hz hn;cases x with
  |mk op n u nm l=>
   have vE:cE (.mk op n u nm l)=1+cT l:=aM;cases hb:(p s (.mk op n u nm l)).1 with
   |true=>rw[qV hb]at hn;cases hn
   |false=>
    rw[pJ hb]at hn ⊢;obtain⟨h1,hz1,h2⟩:=h op n u nm l s (jD hu) hs hz hb;obtain⟨h3,hz3,h4⟩:=E4 (D:=fT fs) l (fun y hy s hs hz hn=>ih y aQ (kr hu hy) s hs hz hn) _ h1.1 hz1 hn;refine⟨h1.trans h3,hz3,fun j hj=>?_⟩;unfold fT at hj;rcases aar.1 hj with hj|hj
    ·by_cases ho:op=3
     (·rw[if_pos ho]at hj;rw[List.mem_singleton.1 hj];exact h3.2.1 _ (h2 ho));rw[if_neg ho]at hj;simp at hj
    obtain⟨y,hy,h5⟩:=CS hj;exact h4 y hy j h5
theorem Tm {l:List Nat} {x:Nat} (h:x∈l):x≤l.sum:=by
 induction l with
 |nil=>simp at h
 |cons a l ih=>
  rw[List.sum_cons];rcases aas.1 h with rfl|h
  (·omega);have:=ih h;omega
theorem Tn {fs:List cL} (hb:Jo fs) (k:Nat):∀ (st:List Int) (i:Nat),i<fs.length→rq fs st→zeros st<k→(Ec fs k st i).1=false→CT fs st (Ec fs k st i).2∧(Ec fs k st i).2.getD i 0=2:=by
 induction k with
 |zero=>intro st i _ _ hz;omega
 |succ k ih=>
  intro st i hi hr hz hn;by_cases h0:st.getD i 0=0
  ·rw[Oo hi h0]at hn ⊢;have hil:i<st.length:=(by rw[hr.len];exact hi);have hz1:=CQ hil h0 1 ak;have hb1:=hb _ (aan hi);have hr1:rq fs (st.set i 1):=by
    refine⟨by rw[List.length_set];exact hr.len,fun j=>?_,?_⟩
    ·rw[gV hil];split
     (·exact .inr (.inl rfl));exact hr.vals j
    obtain⟨r,h⟩:=hr.PI;refine⟨r,fun a f ha hf j hj=>?_⟩;rw[gV hil]at ha;split at ha
    (·exact absurd ha ak);obtain⟨h2,h3⟩:=h a f ha hf j hj;refine⟨?_,h3⟩;rw[gV hil,if_neg (fun e=>by rw[e,h0]at h2;exact absurd h2 ak)];exact h2
   have hw:=Mn (fs:=fs) (z:=zeros (st.set i 1)) (p:=yo fs k) (fun op n u nm l s hu hs hz hn=>by
    unfold yo at hn ⊢;by_cases ho:op=3
    ·have e:(cw.mk op n u nm l).op=3:=ho;rw[if_pos e]at hn ⊢;subst ho;have hf:¬findF fs nm<0:=by
      intro h8;have h9:((3:Int)==3&&decide (findF fs nm<0))=false:=hu;rw[decide_eq_true h8]at h9;cases h9
     obtain⟨h1,h2⟩:=ih s _ (t_ hf).2 hs af hn;exact⟨h1,(E2 fs s.length _ k s _ ⟨rfl,hz⟩).2,fun _=>h2⟩
    have e:¬(cw.mk op n u nm l).op=3:=ho;rw[if_neg e]at hn ⊢;exact⟨.refl hs,hz,fun h=>absurd h ho⟩) (cE fs[i].body) fs[i].body aac hb1.1 (st.set i 1) hr1 aac hn
   obtain⟨⟨w1,w2,w3⟩,_,w4⟩:=hw;generalize (jr (yo fs k) (st.set i 1) fs[i].body).2=s at w1 w2 w3 w4 ⊢;have sD:i<s.length:=(by rw[w1.len];exact hi);have hsi:s.getD i 0=1:=(w3 i).2 (by rw[gV hil,if_pos rfl]);(have hback:∀ j,j≠i→(st.set i 1).getD j 0=st.getD j 0:=fun j hj=>by rw[gV hil,if_neg hj]);refine⟨⟨⟨by rw[List.length_set];exact w1.len,fun j=>?_,?_⟩,fun j hj=>?_,fun j=>?_⟩,by rw[gV sD,if_pos rfl]⟩
   ·rw[gV sD];split
    (·exact .inr (.inr rfl));exact w1.vals j
   ·obtain⟨r,h⟩:=w1.PI;refine⟨fun j=>if j=i then((fT fs fs[i].body).map r).sum+1 else r j,fun a f ha hf j hj=>?_⟩;rw[gV sD]at ha;by_cases hai:a=i
    (·subst hai;rw[List.getElem?_eq_getElem hi]at hf;injection hf with hf;subst hf;have h2:=w4 j hj;(have hji:j≠a:=fun e=>by rw[e,hsi]at h2;exact absurd h2 ak);rw[gV sD,if_neg hji];refine⟨h2,?_⟩;simp only[if_neg hji,if_true];have:=Tm (List.mem_map.2 ⟨j,hj,rfl⟩:r j∈(fT fs fs[a].body).map r);omega);rw[if_neg hai]at ha;obtain⟨h2,h3⟩:=h a f ha hf j hj;(have hji:j≠i:=fun e=>by rw[e,hsi]at h2;exact absurd h2 ak);rw[gV sD,if_neg hji];simp only[if_neg hji,if_neg hai];exact⟨h2,h3⟩
   ·rw[gV sD];split
    (·rfl);(next hji=>exact w2 j (by rw[hback j hji];exact hj))
   rw[gV sD];by_cases hji:j=i
   (·rw[if_pos hji,hji,h0];exact⟨fun h=>absurd h ak,fun h=>absurd h ak⟩);rw[if_neg hji];rw[w3 j,hback j hji]
  rw[Jm h0]at hn ⊢;refine⟨.refl hr,?_⟩;rcases hr.vals i with h|h|h
  (·exact absurd h h0)
  (·rw[h]at hn;cases hn);exact h
end
end
open Go Go.RowKit Go.Proofs
section
def PJ (P:Program) (t e k:Nat):Prop:=P.underlying t=some (.slice e)∧0<k∧∃ i z bytes,P.info? e=some i∧i.zero=some z∧i.size=k∧i.bytes=bytes∧z.cells.size=k∧bytes≤1000
theorem PJ.of {P:Program} {t e k:Nat} (z:Value) (bytes:Nat) (hu:P.underlying t=some (.slice e)) (hi:(P.info? e).map (fun i=>(i.zero,i.size,i.bytes))=some (some z,k,bytes)) (hz:z.cells.size=k) (hb:bytes≤1000) (hk:0<k):PJ P t e k:=by
 obtain⟨i0,Bo,hz0,hz1,hz2⟩:=info_parts hi;exact⟨hu,hk,i0,z,bytes,Bo,hz0,hz1,hz2,hz,hb⟩
def qQ {α:Type} (R:Rel α) (w:World) (S:Nat→Prop) (A:Option Addr) (xs:List α):Prop:=
 ∃ css:List (List Value),css.length=xs.length∧Rows w Any A R.k css∧∀ (j:Nat) cs x,css[j]? =some cs→xs[j]? =some x→R.is w S cs x
section
variable {α:Type} {R:Rel α} {w w':World} {S S':Nat→Prop} {A:Option Addr} {v:Value} {xs ys:List α} {B T t:Nat} {P:Program}
theorem Sq.ext (h:Sq R w S A xs):qQ R w S A xs:=by
 obtain⟨css,h1,h2,h3⟩:=h;exact⟨css,h1,h2.mono fun _ _ _=>trivial,h3⟩
theorem qQ.mono (h:qQ R w S A xs) (hs:∀ b,b<w.heap.size→S b→S' b):qQ R w S' A xs:=by
 obtain⟨css,h1,h2,h3⟩:=h;exact⟨css,h1,h2,fun j cs x hc hx=>R.mono (h3 j cs x hc hx) hs⟩
theorem qQ.bZ (h:qQ R w S A xs) (hb:Below w w w'):qQ R w' S A xs:=by
 obtain⟨css,h1,h2,h3⟩:=h;exact⟨css,h1,h2.keep (cB.cA hb),fun j cs x hc hx=>R.keep (h3 j cs x hc hx) (cB.cA hb)⟩
theorem qQ.lit {cs:List Value} {x:α} (h:R.is w S cs x) (e:TypeId):qQ R (w.alloc (.cells cs.toArray e)) S (bY w 0) [x]:=by
 refine⟨[cs],rfl,fun _=>⟨w.heap.size,0,rfl,trivial,by simp,fun j c hj i u hu=>?_⟩,fun j c y hc hy=>?_⟩
 (·(have hj0:j=0:=by have:=(List.getElem?_eq_some_iff.1 hj).1;simpa using this);subst hj0;have hc:cs=c:=(by simpa using hj);subst hc;rw[cell_of_row _ _ _ _ _ _ (heap_alloc_new w _)];simpa using hu);(have hj0:j=0:=by have:=(List.getElem?_eq_some_iff.1 hc).1;simpa using this);subst hj0;have h1:cs=c:=(by simpa using hc);have h2:x=y:=(by simpa using hy);subst h1 h2;exact R.keep h (cB.cA (cS _))
theorem qQ.iM {cs:List Value} {x:α} {n:Nat} (h:R.is w S cs x) (e:TypeId) (hn:n=w.heap.size):qQ R (w.alloc (.cells cs.toArray e)) S (bY n 0) [x]:=hn▸qQ.lit h e
theorem Mo {css:List (List Value)} {k:Nat} (h:Rows w Any A k css) (hk:∀ cs∈css,cs.length=k) (hk0:0<k):Reads w w k A css.length css.flatten:=by
 refine⟨sN hk,fun hn=>?_⟩;obtain⟨b,off,e,_,hlt,hc⟩:=h (fun e=>by subst e;simp at hn);refine⟨_,e,hlt,fun j u hu=>?_⟩;have hj:j<css.flatten.length:=(List.getElem?_eq_some_iff.1 hu).1;rw[sN hk]at hj;have hq:j / k<css.length:=Nat.div_lt_of_lt_mul (by rw[Nat.mul_comm];exact hj);have hr:=Nat.mod_lt j hk0;have cM:=hk _ (aan hq);have hfu:=mI hk (j / k) (j % k) css[j / k] (css[j / k][j % k]' af) (List.getElem?_eq_getElem hq) (List.getElem?_eq_getElem af);have hdm:j / k*k+j % k=j:=(by rw[Nat.mul_comm];exact Nat.div_add_mod j k);rw[hdm,hu]at hfu;injection hfu with hfu;have:=hc (j / k) _ (List.getElem?_eq_getElem hq) (j % k) _ (List.getElem?_eq_getElem af);rw[← hfu,Nat.add_assoc,hdm]at this;rw[Addr.add_lit];exact this
structure Grown (R:Rel α) (T B:Nat) (w:World) (S:Nat→Prop) (v:Value) (xs:List α) (w':World) (v':Value):Prop where
 own:dO R T B w' S v' xs
 turn:w.grownBy w' v.ownBlock
 row:v'.ownBlock=v.ownBlock∨v'.ownBlock=some w.heap.size
theorem zZ {o:Oper} {a:Act} {K:Act→World→Prop} {Q:Exit→Act→World→Prop} (s x:Operand) (tt:TypeId) (htt:tt=t) (ho:o.op= .call {callee:= .builtin .append,args:=#[s,x],argTypes:=#[tt,tt]}) (I:PJ P t T R.k) (hO:dO R T B w S v xs) (hs:a.eval s=v) (A:Option Addr) (m c:Nat) (hx:a.eval x=bW A m c) (hm:ys.length=m) (hN:qQ R w (fun b=>S b∧some b≠v.ownBlock) A ys) (hl:xs.length+m≤100000000000) (hB:B≤w.heap.size) {zs:List α} (hzs:xs++ys=zs) {n:Nat} (hn:xs.length+m=n) (hK:∀ A' c' w',n≤c'→Hid (Grown R T B w S v zs w' (bW A' n c'))→K (a.put o.dst (bW A' n c')) w'):Oper.wp P o a w K Q:=by
 subst htt hm hzs hn;obtain⟨hu,hk0,i0,z,bytes,Bo,hz0,hz1,hz2,hz3,hb⟩:=I;obtain⟨css,h1,h2,h3,h4⟩:=hO;obtain⟨Ri,n1,n2,n3⟩:=hN;have hnk:∀ cs∈Ri,cs.length=R.k:=fun cs hcs=>by
  obtain⟨j,hj,rfl⟩:=List.getElem_of_mem hcs;exact R.len (n3 j _ _ (List.getElem?_eq_getElem hj) (List.getElem?_eq_getElem af))
 have hr:=Mo n2 hnk hk0;rw[n1]at hr;refine pV w s x _ ho B T i0 z R.k bytes hu Bo hz0 hz1 hz2 hz3 hk0 v xs.length css.flatten hs h2 w A ys.length c Ri.flatten hx hr (fun u hu=>?_) aH ?_ hB fun v' w' g1 g2 g3=>?_
 (·obtain⟨cs,hcs,hu⟩:=List.mem_flatten.1 hu;obtain⟨j,hj,rfl⟩:=List.getElem_of_mem hcs;exact R.one (n3 j _ _ (List.getElem?_eq_getElem hj) (List.getElem?_eq_getElem af)) u hu)
 (·exact aaC (Nat.mul_le_mul hl hb) ak);obtain⟨A',c',e,hc,_⟩:=iK g1;subst e;exact hK A' c' w' hc (aa ⟨dO.more h1 h3 h4 n1 n3 rfl rfl g1 g2 g3,g2,g3⟩)
theorem dz {ops:Array Oper} {rest:List Oper} {o:Oper} {a:Act} {Q:Exit→Act→World→Prop} (hgd:o.guard=none) (s x:Operand) (tt:TypeId) (htt:tt=t) (ho:o.op= .call {callee:= .builtin .append,args:=#[s,x],argTypes:=#[tt,tt]})
 (I:PJ P t T R.k) (hO:dO R T B w S v xs) (hs:a.eval s=v) (A:Option Addr) (m c:Nat) (hx:a.eval x=bW A m c) (hm:ys.length=m) (hN:qQ R w (fun b=>S b∧some b≠v.ownBlock) A ys)
 (hl:xs.length+m≤100000000000) (hB:B≤w.heap.size) {zs:List α} (hzs:xs++ys=zs) {n:Nat} (hn:xs.length+m=n)
 (hK:∀ A' c' w',n≤c'→Hid (Grown R T B w S v zs w' (bW A' n c'))→wpList P ops Q rest (a.put o.dst (bW A' n c')) w'):wpList P ops Q (o :: rest) a w:=
 wpList_plain hgd fun _ hKK=>zZ s x tt htt ho I hO hs A m c hx hm hN hl hB hzs hn fun A' c' w' h1 h2=>hKK _ _ (hK A' c' w' h1 h2)
theorem kL {ops:Array Oper} {o:Oper} {a:Act} {K:Act→World→Prop} {Q:Exit→Act→World→Prop} {E:Prop} (hgd:o.guard=none) (s x:Operand) (tt:TypeId) (htt:tt=t) (ho:o.op= .call {callee:= .builtin .append,args:=#[s,x],argTypes:=#[tt,tt]}) (I:PJ P t T R.k) (hO:dO R T B w S v xs) (hs:a.eval s=v) (A:Option Addr) (m c:Nat) (hx:a.eval x=bW A m c) (hm:ys.length=m) (hN:qQ R w (fun b=>S b∧some b≠v.ownBlock) A ys) (hl:xs.length+m≤100000000000) (hB:B≤w.heap.size) {zs:List α} (hzs:xs++ys=zs) {n:Nat} (hn:xs.length+m=n) (hK:∀ A' c' w',n≤c'→Hid (Grown R T B w S v zs w' (bW A' n c'))→K (a.put o.dst (bW A' n c')) w'):if Region.wanted o (yielded ops a.tmps)=true then Oper.wp P o a w K Q else E:=by
 have hw:Region.wanted o (yielded ops a.tmps)=true:=(by simp[Region.wanted,hgd]);rw[if_pos hw];exact zZ s x tt htt ho I hO hs A m c hx hm hN hl hB hzs hn hK
theorem Grown.bZ {xs':List α} {v':Value} (h:Grown R T B w S v xs w' v') (hO:dO R T B w S v xs') (hB:B≤w.heap.size):Below B w w':=
 (aaf B w).grown h.turn hB fun g hg=>(hO.lt g hg).1
end
theorem uY:PJ prog 120 9 1:= .of (bV ByteArray.empty) 16 underlying120 ah rfl ak ak
end
theorem WQ:PJ prog 26 49 7:= .of (.agg #[bV ByteArray.empty,bV ByteArray.empty,bU 0,bU 0,bV ByteArray.empty,bV ByteArray.empty,cD]) 104 underlying26 ah ah ak ak
theorem Ot:PJ prog 45 47 5:= .of (.agg #[bU 0,bU 0,bV ByteArray.empty,bV ByteArray.empty,cD]) 72 underlying45 ah ah ak ak
end Go.Proofs.YtfppbjfnllhgcaaGreat
namespace Sh
open Kb
section
mutual
def BdE (N:Nat):cw→Prop
 | .mk _ _ _ name l=>name.size≤N∧BdL N l
def BdL (N:Nat):List cw→Prop
 |[]=>True
 |x :: l=>BdE N x∧BdL N l
end
theorem BdL.mem {N:Nat}:∀ {l:List cw},BdL N l→∀ x∈l,BdE N x
 |[],_,x,hx=>by cases hx
 |y :: l,h,x,hx=>by
  unfold BdL at h;rcases aas.1 hx with rfl|hx
  (·exact h.1);exact BdL.mem h.2 x hx
end
end Sh
namespace Go.Proofs.YtfppbjfnllhgcaaGreat
section
open Go Go.RowKit Go.Proofs Sh Kb
section
section
variable {w w' w'':World} {row:Option Nat}
theorem Mp (w:World) (row:Option Nat):w.grownBy w row:=⟨rfl,rfl,rfl,aaB _,fun _ _ _=>rfl⟩
theorem z_ (h:w.grownBy w' row) (k:w'.grownBy w'' row):w.grownBy w'' row:=
 ⟨k.os.trans h.os,k.tape.trans h.tape,k.output.trans h.output,aaC h.size k.size,fun b hb hr=>(k.block b (aaD hb h.size) hr).trans (h.block b hb hr)⟩
theorem CU (h:Below w w w') (row:Option Nat):w.grownBy w' row:=⟨h.os,h.tape,h.output,h.size,fun b hb _=>h.block b hb⟩
theorem PK (h:w.grownBy w' row) {b:Nat} {t:TypeId} {cs:List Value} (hr:some b≠row) (k:cN w b t cs):cN w' b t cs:=(h.block b k.lt hr).trans k
end
section
variable {α:Type} {R:Rel α} {w w' w'':World} {S:Nat→Prop} {v:Value} {xs:List α} {B T:Nat} {row r2:Option Nat}
theorem Mq {e size n:Nat} {us:List Value} (h:w.ownsRow B e size v n us) (hg:w.grownBy w' row) (hr:∀ r,row=some r→r<B):w'.ownsRow B e size v n us:=by
 refine⟨h.1,?_⟩;rcases h.2 with h1|⟨g,cap,cur,rfl,hB,hb,rest⟩
 (·exact .inl h1);refine .inr ⟨g,cap,cur,rfl,hB,?_,rest⟩;rw[hg.block g (Array.getElem?_eq_some_iff.1 hb).1 (fun e=>by have:=hr g e.symm;omega)];exact hb
theorem dO.grown (h:dO R T B w S v xs) (hg:w.grownBy w' row) (hr:∀ r,row=some r→r<B) (hS:∀ b,S b→some b≠row):dO R T B w' S v xs:=by
 obtain⟨css,h1,h2,h3,h4⟩:=h;exact⟨css,h1,Mq h2 hg hr,h3,fun j cs x hc hx=>R.keep (h4 j cs x hc hx) (cB.fE hg fun b q=>hS b q.1)⟩
theorem CV (h:w.grownBy w' row) (k:w'.grownBy w'' r2) (hr:∀ g,r2=some g→w.heap.size≤g):w.grownBy w'' row:=
 ⟨k.os.trans h.os,k.tape.trans h.tape,k.output.trans h.output,aaC h.size k.size,fun b hb hb2=>(k.block b (aaD hb h.size) (fun e=>by have:=hr b e.symm;omega)).trans (h.block b hb hb2)⟩
theorem n_ (h:w.grownBy w' row) {b i:Nat} (hb:w.heap.size≤b) (u:Value):w.grownBy (w'.setCell (bY b i) u) row:=
 ⟨h.os,h.tape,h.output,by simpa [World.setCell]using h.size,fun c hc hr=>(aae w' (bY b i) u c (by show c≠b;omega)).trans (h.block c hc hr)⟩
theorem Af (h:w.grownBy w' row) (o:Obj):w.grownBy (w'.alloc o) row:=CV h (CU (cS o) none) (fun g e=>by cases e)
end
structure Clo (N g:Nat) (lb:Array Value) (Rd:Nat→Prop) (row:Option Nat) (J:List ByteArray→World→Prop) (f:Int→ByteArray→ByteArray) (lg:Int→ByteArray→List ByteArray):Prop where
 enters:∀ args w,(callFunc g args).run prog w= .ok (.enter g args) w
 rd:∀ r,row=some r→Rd r
 keep:∀ {l:List ByteArray} {W W':World},J l W→W.heap.size≤W'→(∀ r,Rd r→W'.heap[r]? =W.heap[r]?)→J l W'
 lt:∀ {l:List ByteArray} {W:World},J l W→∀ r,Rd r→r<W.heap.size
 call:∀ (op:Int) (s:ByteArray) (l:List ByteArray) (W:World),s.size≤N→J l W→Calls prog g (#[bU op,bV s]++lb) W fun e W'=>e= .returned (bV (f op s))∧J (l++lg op s) W'∧W.grownBy W' row
structure CW (row:Option Nat) (J:List ByteArray→World→Prop) (w:World) (px:Nat) (cs:List Value) (v:Value) (xs:List cw) (ls:List ByteArray) (wr:World):Prop where
 b1:cN wr px 47 cs
 b2:cN wr (px+1) 47 [bU 0,bU 0,bV ⟨#[]⟩,bV ⟨#[]⟩,cD]
 own:dO di 47 (px+2) wr (fun b=>px+2≤b) v xs
 j:J ls wr
 turn:w.grownBy wr row
 size:px+2≤wr.heap.size
section
variable {row:Option Nat} {J:List ByteArray→World→Prop} {w wr w3 w4:World} {px:Nat} {cs cs':List Value} {v v':Value} {xs:List cw} {y:cw} {ls ls':List ByteArray} {o o2:Obj}
theorem CW.ready (h:CW row J w px cs v xs ls wr) (hpx:px=w.heap.size) (hr:∀ r,row=some r→r<px) (h3:(wr.alloc o).grownBy w3 row):dO di 47 (px+2) (w3.alloc o2) (fun b=>px+2≤b) v xs:=
 (((h.own.bZ (cS o)).grown h3 (fun r q=>by have:=hr r q;omega) (fun b hb q=>by have:=hr b q.symm;omega)).bZ (cS o2))
theorem CW.more {N g:Nat} {lb:Array Value} {Rd:Nat→Prop} {f:Int→ByteArray→ByteArray} {lg:Int→ByteArray→List ByteArray} (C:Clo N g lb Rd row J f lg) (h:CW row J w px cs v xs ls wr) (hpx:px=w.heap.size) (hr:∀ r,Rd r→r<px) (h3:(wr.alloc o).grownBy w3 row) (hj:J ls' w3) (G:Grown di 47 (px+2) (w3.alloc o2) (fun b=>px+2≤b) v (xs++[y]) w4 v'):CW row J w px cs v' (xs++[y]) ls' w4:=by
 have hr0:∀ r,row=some r→r<px:=fun r q=>hr r (C.rd r q);have hO:=h.ready (o2:=o2) hpx hr0 h3;have hv:∀ g,v.ownBlock=some g→px+2≤g:=fun g e=>(hO.lt g e).1;have hs:=h.size;have h3s:=h3.size;have h4s:=G.turn.size;simp at h3s h4s;have hA:wr.grownBy (w3.alloc o2) row:=Af (z_ (Af (Mp wr row) o) h3) o2;(have hne:∀ b,px≤b→some b≠row:=fun b hb e=>by have:=hr0 b e.symm;omega);have blk:∀ {b:Nat} {t:TypeId} {c:List Value},px≤b→b<px+2→cN wr b t c→cN w4 b t c:=fun {b t c} h1 h2 k=>
  (G.turn.block b au (fun e=>by have:=hv b e.symm;omega)).trans (PK hA (hne b h1) k)
 refine⟨blk aac af h.b1,blk af af h.b2,G.own,?_,?_,by omega⟩
 (·exact C.keep (C.keep hj (by simp:w3.heap.size≤(w3.alloc o2).heap.size) fun r hr2=>heap_alloc_old _ _ (by have:=hr r hr2;omega)) au fun r hr2=>G.turn.block r (by have:=hr r hr2;simp;omega) (fun e=>by have:=hv r e.symm;have:=hr r hr2;omega));(exact CV (z_ h.turn hA) G.turn fun g e=>by have:=hv g e;omega)
theorem og {S:Nat→Prop} {b i:Nat} {u:Value} (h:cB S w wr) (hb:¬S b):cB S w (wr.setCell (bY b i) u):=
 ⟨by simpa [World.setCell]using h.1,fun c hc hs=>(aae wr (bY b i) u c (fun e=>hb (by have e2:c=b:=e;exact e2▸hs))).trans (h.2 c hc hs)⟩
theorem CW.fin {N g:Nat} {lb:Array Value} {Rd:Nat→Prop} {f:Int→ByteArray→ByteArray} {lg:Int→ByteArray→List ByteArray} (C:Clo N g lb Rd row J f lg) {A:Option Addr} {n c:Nat} (h:CW row J w px cs (bW A n c) xs ls wr) (hpx:px=w.heap.size) (hr:∀ r,Rd r→r<px) (u0 u1 u2 u3 u4 u5:Value):
 let wF:=(((((wr.setCell (bY px 4) u0).setCell (bY (px+1) 0) u1).setCell (bY (px+1) 1) u2).setCell (bY (px+1) 2) u3).setCell (bY (px+1) 3) u4).setCell (bY (px+1) 4) u5
 Sq di wF (fun b=>w.heap.size≤b) A xs∧J ls wF∧w.grownBy wF row:=by
 intro wF
 have K:∀ {S:Nat→Prop},(¬S px)→(¬S (px+1))→cB S wr wF:=fun h1 h2=>og (og (og (og (og (og (cB.refl _ _) h1) h2) h2) h2) h2) h2
 have hs:=h.size
 refine⟨?_,?_,?_⟩
 ·
  have h1:=(h.own.sq (S:=fun b=>px+2≤b) fun b _ hb=>hb).keep (K af af);(exact h1.mono fun b _ hb=>by omega)
 ·
  have h2:=K (S:=fun b=>b<px) af af;exact C.keep h.j h2.1 fun r hr2=>h2.2 r (by have:=hr r hr2;omega) (hr r hr2)
 ·
  exact n_ (n_ (n_ (n_ (n_ (n_ h.turn af _) af _) af _) af _) af _) af _
end
theorem PL {x y:cw} {op n:Int} {unit name:ByteArray} {args:List cw} (hx:x= .mk op n unit name args) (hy:y∈args):iI y<iI x:=by
 subst hx;have h:∀ (l:List cw),y∈l→iI y≤iq l:=by
  intro l;induction l with
  |nil=>intro h;cases h
  |cons a l ih=>
   intro h;unfold iq;rcases aas.1 h with rfl|h
   (·omega);have:=ih h;omega
 have:=h args hy;show iI y<1+iq args;omega
end
end
open Go Go.RowKit Bg Go.Proofs Sh Kb
section
structure dh where
 x:cw
 nodes:Int
 levels:Int
 full:Bool
def lu:dh:=⟨.mk 0 0 ⟨#[]⟩ ⟨#[]⟩ [],0,0,true⟩
def pX (y:dh):Prop:=0≤y.nodes∧y.nodes≤200∧0≤y.levels∧y.levels≤20
def xO (op n:Int) (un nm:ByteArray):Int→Int→List cw→List dh→dh
 |a,b,acc,[]=>⟨.mk op n un nm acc,a,b,false⟩
 |a,b,acc,y :: l=>if y.full||decide (200<a+y.nodes)||decide (20<max b (y.levels+1))then lu else xO op n un nm (a+y.nodes) (max b (y.levels+1)) (acc++[y.x]) l
theorem Gx {op n:Int} {un nm:ByteArray}:∀ (l:List dh) (a b:Int) (acc:List cw),0≤a→a≤200→0≤b→b≤20→(∀ y∈l,pX y)→pX (xO op n un nm a b acc l)
 |[],a,b,acc,h1,h2,h3,h4,_=>⟨h1,h2,h3,h4⟩
 |y :: l,a,b,acc,h1,h2,h3,h4,hy=>by
  unfold xO;split
  (·exact⟨by decide,by decide,by decide,by decide⟩);next h=>
  have hy1:=hy y ai;unfold pX at hy1;simp at h;exact Gx l _ _ _ af af af af fun z hz=>hy z (by simp[hz])
def eY:Rel dh where
 k:=8
 is:=fun w S cs y=>∃ es,cs=es++[bU y.nodes,bU y.levels,.bool y.full]∧cH w S es y.x
 len:=fun⟨es,h,k⟩=>by rw[h,aao,di.len k];rfl
 one:=fun⟨es,h,k⟩ v hv=>by
  rw[h,aar]at hv;rcases hv with hv|hv
  (·exact di.one k v hv);simp at hv;rcases hv with rfl|rfl|rfl<;>rfl
 keep:=fun⟨es,h,k2⟩ hk=>⟨es,h,k2.keep hk⟩
 mono:=fun⟨es,h,k2⟩ hs=>⟨es,h,k2.mono hs⟩
def pY (S:Nat→Prop) (r:dh) (w:World) (e:Ending) (w':World):Prop:=∃ cs,e= .returned (.agg cs.toArray)∧eY.is w' (fun b=>S b∨w.heap.size≤b) cs r∧Below w w w'
theorem Jq (w:World) (S:Nat→Prop):eY.is w S [bU 0,bU 0,bV ⟨#[]⟩,bV ⟨#[]⟩,cD,bU 0,bU 0,.bool true] lu:=
 ⟨[bU 0,bU 0,bV ⟨#[]⟩,bV ⟨#[]⟩,cD],rfl,.mk 0 0 ⟨#[]⟩ ⟨#[]⟩ none 0 [] [] rfl (fun h=>absurd rfl h) (fun j cs x h=>by simp at h)⟩
theorem CX {W:World} {p t:Nat} {cs:List Value} (h:cN W p t cs) (hl:cs.length=8) (u0 u1 u2 u3 u4 u5 u6 u7:Value):∃ wF,wF=((((((((W.setCell (bY p 0) u0).setCell (bY p 1) u1).setCell (bY p 2) u2).setCell (bY p 3) u3).setCell (bY p 4) u4).setCell (bY p 5) u5).setCell (bY p 6) u6).setCell (bY p 7) u7)∧cN wF p t [u0,u1,u2,u3,u4,u5,u6,u7]∧cB (fun b=>b≠p) W wF∧∀ B w,Below B w W→B≤p→Below B w wF:=by
 refine⟨_,rfl,?_,?_,fun B w hb hp=>?_⟩
 ·match cs,hl with
  |[c0,c1,c2,c3,c4,c5,c6,c7],_=>exact((((((((h.eB 0 _).eB 1 _).eB 2 _).eB 3 _).eB 4 _).eB 5 _).eB 6 _).eB 7 _)
 (·have k:∀ {W:World} {i:Nat} {u:Value},cB (fun b=>b≠p) W (W.setCell (bY p i) u):=lq ai;exact k.trans (k.trans (k.trans (k.trans (k.trans (k.trans (k.trans k)))))));(repeat refine Below.setCell ?_ (by exact hp) _);exact hb
theorem put5 {W:World} {p t:Nat} {c0 c1 c2 c3 c4 c5 c6 c7:Value} (h:cN W p t [c0,c1,c2,c3,c4,c5,c6,c7]) (u0 u1 u2 u3 u4:Value):∃ wF,wF=(((((W.setCell (bY p 0) u0).setCell (bY p 1) u1).setCell (bY p 2) u2).setCell (bY p 3) u3).setCell (bY p 4) u4)∧cN wF p t [u0,u1,u2,u3,u4,c5,c6,c7]∧cB (fun b=>b≠p) W wF∧∀ B w,Below B w W→B≤p→Below B w wF:=by
 refine⟨_,rfl,?_,?_,fun B w hb hp=>?_⟩
 (·exact(((((h.eB 0 _).eB 1 _).eB 2 _).eB 3 _).eB 4 _))
 (·have k:∀ {W:World} {i:Nat} {u:Value},cB (fun b=>b≠p) W (W.setCell (bY p i) u):=lq ai;exact k.trans (k.trans (k.trans (k.trans k))));(repeat refine Below.setCell ?_ (by exact hp) _);exact hb
structure Jr (S:Nat→Prop) (w:World) (op n:Int) (un nm:ByteArray) (v:Value) (acc:List cw) (a b:Int) (wr:World):Prop where
 b0:cN wr w 47 [bU op,bU n,bV un,bV nm,v]
 b1:cN wr (w+1) 176 [bU 0,bU 0,bV ⟨#[]⟩,bV ⟨#[]⟩,cD,bU 0,bU 0,.bool false]
 b2:cN wr (w+1+1) 176 [bU 0,bU 0,bV ⟨#[]⟩,bV ⟨#[]⟩,cD,bU a,bU b,.bool false]
 own:dO di 47 (w+1+1+1) wr (fun b=>S b∧b<w.heap.size) v acc
 low:Below w w wr
 size:w.heap.size+1+1+1≤wr
section
variable {S:Nat→Prop} {w wr:World} {op n:Int} {un nm:ByteArray} {v:Value} {acc:List cw} {a b a' b':Int}
theorem Jr.tick (h:Jr S w op n un nm v acc a b wr) (o:Obj):Jr S w op n un nm v acc a' b' (((wr.setCell (bY (w+1+1) 5) (bU a')).setCell (bY (w+1+1) 6) (bU b')).alloc o):=by
 have hz:((wr.setCell (bY (w+1+1) 5) (bU a')).setCell (bY (w+1+1) 6) (bU b')).heap.size=wr.heap.size:=bH;have hs:=h.size;have k:cB (fun b=>b≠w.heap.size+1+1) wr ((wr.setCell (bY (w+1+1) 5) (bU a')).setCell (bY (w+1+1) 6) (bU b')):=(lq ai).trans (lq ai);have blk:∀ {g t:Nat} {cs:List Value},g≠w.heap.size+1+1→g<wr.heap.size→cN wr g t cs→cN (((wr.setCell (bY (w+1+1) 5) (bU a')).setCell (bY (w+1+1) 6) (bU b')).alloc o) g t cs:=fun h1 h2 h3=>(heap_alloc_old _ _ (by rw[hz];exact h2)).trans ((k.2 _ h2 h1).trans h3);refine⟨blk af af h.b0,blk af af h.b1,(heap_alloc_old _ _ (by rw[hz];omega)).trans ((h.b2.eB 5 _).eB 6 _),?_,?_,by rw[aaI,hz];omega⟩
 (·have hg:wr.grownBy ((wr.setCell (bY (w+1+1) 5) (bU a')).setCell (bY (w+1+1) 6) (bU b')) (some (w+1+1)):=⟨rfl,rfl,rfl,by rw[hz];omega,fun b hb hr=>k.2 b hb fun e=>hr (by rw[e])⟩;exact(h.own.grown hg (fun r e=>by injection e with e;omega) (fun b hb e=>by injection e with e;omega)).bZ (cS o));exact((h.low.setCell (by show w.heap.size≤w.heap.size+1+1;omega) _).setCell (by show w.heap.size≤w.heap.size+1+1;omega) _).alloc (by rw[hz];omega) o
theorem Jr.more {o:Obj} {w9:World} {v':Value} {ys:List cw} (h:Jr S w op n un nm v acc a b wr) (G:Grown di 47 (w+1+1+1) (wr.alloc o) (fun b=>S b∧b<w.heap.size) v ys w9 v'):Jr S w op n un nm v' ys a b (w9.setCell (bY w 4) v'):=by
 have hs:=h.size;have ha:(wr.alloc o).heap.size=wr.heap.size+1:=ai;have hb:=G.bZ (h.own.bZ (cS o)) af;have hz:(w9.setCell (bY w 4) v').heap.size=w9.heap.size:=bH;have hb2:=hb.size;have k:cB (fun b=>b≠w.heap.size) w9 (w9.setCell (bY w 4) v'):=lq ai;have blk:∀ {g t:Nat} {cs:List Value},g<w.heap.size+1+1+1→cN wr g t cs→cN w9 g t cs:=fun h1 h2=>(hb.block _ h1).trans ((heap_alloc_old _ _ af).trans h2);refine⟨(blk af h.b0).eB 4 v',(k.2 _ af af).trans (blk af h.b1),(k.2 _ af af).trans (blk af h.b2),?_,?_,by rw[hz];omega⟩
 (·have hg:w9.grownBy (w9.setCell (bY w 4) v') (some w.heap.size):=⟨rfl,rfl,rfl,by rw[hz];omega,fun b hb hr=>k.2 b hb fun e=>hr (by rw[e])⟩;exact G.own.grown hg (fun r e=>by injection e with e;omega) (fun b hb e=>by injection e with e;omega));exact((h.low.alloc h.low.size o).trans (hb.mono af)).setCell (by show w.heap.size≤w;omega) _
end
theorem E5 (S:Nat→Prop) (op n:Int) (un nm:ByteArray) (A0:Option Addr) (k0 c0:Nat) (A:Option Addr) (c:Nat) (l:List dh) (w:World) (hs:Sq eY w S A l) (hl:l.length≤1000000) (ho:∀ y∈l,pX y):Calls prog 149 #[.agg #[bU op,bU n,bV un,bV nm,bW A0 k0 c0],bW A l c] w (pY S (xO op n un nm 1 1 [] l) w):=by
 generalize hP:pY S (xO op n un nm 1 1 [] l) w=P;have HP:=aa (show ∀ e w',pY S (xO op n un nm 1 1 [] l) w e w'→P e w' from fun e w' h=>hP▸h);clear hP;have HS:=aa hs;have HO:=aa ho;clear hs ho;have HJ:Hid (Jr S w op n un nm cD [] 1 1 (((w.alloc (.cells #[bU op,bU n,bV un,bV nm,cD] 47)).alloc (.cells #[bU 0,bU 0,bV ⟨#[]⟩,bV ⟨#[]⟩,cD,bU 0,bU 0,.bool false] 176)).alloc (.cells #[bU 0,bU 0,bV ⟨#[]⟩,bV ⟨#[]⟩,cD,bU 1,bU 1,.bool false] 176))):=by
  have e1:(w.alloc (.cells #[bU op,bU n,bV un,bV nm,cD] 47)).heap.size=w.heap.size+1:=ai;have e2:((w.alloc (.cells #[bU op,bU n,bV un,bV nm,cD] 47)).alloc (.cells #[bU 0,bU 0,bV ⟨#[]⟩,bV ⟨#[]⟩,cD,bU 0,bU 0,.bool false] 176)).heap.size=w.heap.size+1+1:=ai;have k1:=heap_alloc_new (w.alloc (.cells #[bU op,bU n,bV un,bV nm,cD] 47)) (.cells #[bU 0,bU 0,bV ⟨#[]⟩,bV ⟨#[]⟩,cD,bU 0,bU 0,.bool false] 176);have k2:=heap_alloc_new ((w.alloc (.cells #[bU op,bU n,bV un,bV nm,cD] 47)).alloc (.cells #[bU 0,bU 0,bV ⟨#[]⟩,bV ⟨#[]⟩,cD,bU 0,bU 0,.bool false] 176)) (.cells #[bU 0,bU 0,bV ⟨#[]⟩,bV ⟨#[]⟩,cD,bU 1,bU 1,.bool false] 176);rw[e1]at k1;rw[e2]at k2;exact aa ⟨(heap_alloc_old _ _ (by rw[e2];omega)).trans ((heap_alloc_old _ _ (by rw[e1];omega)).trans (heap_alloc_new w _)),(heap_alloc_old _ _ (by rw[e2];omega)).trans k1,k2,dO.ql,((cS _).alloc (by rw[e1];omega) _).alloc (by rw[e2];omega) _,by rw[aaI,e2];omega⟩
 go_enter func149,ntmps149;go_upto_region 3 with fail;generalize (((w.alloc (.cells #[bU op,bU n,bV un,bV nm,cD] 47)).alloc (.cells #[bU 0,bU 0,bV ⟨#[]⟩,bV ⟨#[]⟩,cD,bU 0,bU 0,.bool false] 176)).alloc (.cells #[bU 0,bU 0,bV ⟨#[]⟩,bV ⟨#[]⟩,cD,bU 1,bU 1,.bool false] 176))=w3 at HJ ⊢;go_wp2;go_loopw [12] (fun s12 wr=>∃ (k:Nat) (v:Value) (acc:List cw) (a b:Int),k≤l.length∧s12=bU (k:Int)∧Hid (Jr S w op n un nm v acc a b wr)∧Hid (acc.length=k)∧Hid (0≤a∧a≤200∧0≤b∧b≤20)∧Hid (xO op n un nm 1 1 [] l=xO op n un nm a b acc (l.drop k))) (fun s12 _=>l.length - (intOf s12).toNat);(case atStart=>exact⟨0,_,[],1,1,aaG _,rfl,HJ,aa rfl,aa ak,aa (by rw[List.drop_zero])⟩);clear HJ;obtain⟨k,v,acc,a,b,hk,rfl,HJ,gY,jy,HA⟩:=hrel;by_cases hlt:k<l.length
 ·obtain⟨bl,o,cs,hA,_,hbl,ey,CY⟩:=HS.o.get hlt;have cM:∀ i v,cs[i]? =some v→b_ wr bl (o+k*8+i) v:=fun i v h=>(HJ.o.low.cell (p:=bY bl (o+k*8+i)) hbl).trans (CY i v h);clear CY;subst hA;have hyo:=HO.o _ (aan hlt);have hdr:=aah hlt;generalize l[k]=y at ey hyo hdr;obtain⟨es,e,hie⟩:=ey;have HX:=aa hie;obtain⟨eR,yn,eT,eU,A2,c2,ar,oh,hes,_⟩:=hie.parts;subst hes e;obtain⟨yx,yN,yL,yF⟩:=y;have hyx2:yx= .mk eR yn eT eU ar:=oh;subst hyx2;obtain⟨y1,y2,y3,y4⟩:=hyo;have rY:=aa (HA.o.trans (by rw[hdr];rfl:_=if yF||decide (200<a+yN)||decide (20<max b (yL+1))then lu else xO op n un nm (a+yN) (max b (yL+1)) (acc++[.mk eR yn eT eU ar]) (l.drop (k+1))));have g0:b_ wr bl (o+k*8) (.int .i64 eR):=cM 0 _ rfl;have g1:b_ wr bl (o+k*8+1) (.int .i64 yn):=cM 1 _ rfl;have g2:b_ wr bl (o+k*8+2) (bV eT):=cM 2 _ rfl;have g3:b_ wr bl (o+k*8+3) (bV eU):=cM 3 _ rfl;have g4:b_ wr bl (o+k*8+4) (bW A2 ar c2):=cM 4 _ rfl;have g5:b_ wr bl (o+k*8+5) (.int .i64 yN):=cM 5 _ rfl;have g6:b_ wr bl (o+k*8+6) (.int .i64 yL):=cM 6 _ rfl;have g7:b_ wr bl (o+k*8+7) (.bool yF):=cM 7 _ rfl;have z2:=HJ.o.b2.cell;have zf:=HJ.o.b2.frozen;have hsz:=HJ.o.size;have hp2:w.heap.size+1+1<wr:=af;obtain⟨x1,x2,x3,x4⟩:=jy.o;have y1:0≤yN:=y1;have y2:yN≤200:=y2;have y3:0≤yL:=y3;have y4:yL≤20:=y4;clear cM hdr oh HA;go_upto_region 8 with fail;have Mr:=aa (HJ.o.tick (a':=a+yN) (b':=max b (yL+1)) (.cells #[.int .i64 eR,.int .i64 yn,bV eT,bV eU,bW A2 ar c2,.int .i64 yN,.int .i64 yL,.bool yF] 176));have HK7:=aa (heap_alloc_new ((wr.setCell (bY (w+1+1) 5) (.int .i64 (a+yN))).setCell (bY (w+1+1) 6) (.int .i64 (max b (yL+1)))) (.cells #[.int .i64 eR,.int .i64 yn,bV eT,bV eU,bW A2 ar c2,.int .i64 yN,.int .i64 yL,.bool yF] 176));rw[show((wr.setCell (bY (w+1+1) 5) (.int .i64 (a+yN))).setCell (bY (w+1+1) 6) (.int .i64 (max b (yL+1)))).heap.size=wr.heap.size by simp[World.setCell]]at HK7;generalize (((wr.setCell (bY (w+1+1) 5) (.int .i64 (a+yN))).setCell (bY (w+1+1) 6) (.int .i64 (max b (yL+1)))).alloc (.cells #[.int .i64 eR,.int .i64 yn,bV eT,bV eU,bW A2 ar c2,.int .i64 yN,.int .i64 yL,.bool yF] 176))=w6 at Mr HK7 ⊢;have HK7:Hid (cN w6 wr 176 [.int .i64 eR,.int .i64 yn,bV eT,bV eU,bW A2 ar c2,.int .i64 yN,.int .i64 yL,.bool yF]):=HK7;clear g0 g1 g2 g3 g4 g5 g6 g7 z2 zf;have z2:=Mr.o.b2.cell;have z7:=HK7.o.cell;have hle:a+yN≤400:=af;have hlm:max b (yL+1)≤21:=af;have hge:0≤a+yN:=af;have I8:0≤max b (yL+1):=af;generalize a+yN=a' at*;generalize max b (yL+1)=b' at*;have WR:=aa (fun(hf:(yF||decide (200<a')||decide (20<b'))=true) (wF:World) (h:cN wF (w+1) 176 [.int .i64 0,.int .i64 0,bV ⟨#[]⟩,bV ⟨#[]⟩,cD,.int .i64 0,.int .i64 0,.bool true]) (hb:Below w w wF)=>HP.o (.returned (.agg #[.int .i64 0,.int .i64 0,bV ⟨#[]⟩,bV ⟨#[]⟩,cD,.int .i64 0,.int .i64 0,.bool true])) wF (by rw[rY.o,if_pos hf];exact⟨_,rfl,Jq _ _,hb⟩));have q1:=Mr.o.b1.cell;have qf:=Mr.o.b1.frozen;obtain⟨wF,hWF,hKF,_,hBF⟩:=CX Mr.o.b1 rfl (.int .i64 0) (.int .i64 0) (bV ⟨#[]⟩) (bV ⟨#[]⟩) cD (.int .i64 0) (.int .i64 0) (.bool true);have HKF:=aa hKF;have HBF:=aa (hBF _ _ Mr.o.low af);have r6:=aa hWF;have z:=hKF.cell;clear hKF hBF hWF;cases yF with
  |true=>
   go_wp2_with fail;rw[← r6.o];exact bodyPost_ret (by simp[results,results149,go_sem,z]) rfl (WR.o rfl _ HKF.o HBF.o)
  |false=>
   by_cases h2:200<a'
   (·have h3:decide (200<a')=true:=aI;go_wp2_with fail;rw[← r6.o];exact bodyPost_ret (by simp[results,results149,go_sem,z]) rfl (WR.o (by rw[h3];rfl) _ HKF.o HBF.o));have h3:decide (200<a')=false:=aI;by_cases h4:20<b'
   (·have h5:decide (20<b')=true:=(by simpa using h4);go_wp2_with fail;rw[← r6.o];exact bodyPost_ret (by simp[results,results149,go_sem,z]) rfl (WR.o (by rw[h5];simp) _ HKF.o HBF.o));have h5:decide (20<b')=false:=(by simpa using h4);clear WR HKF HBF r6 z q1 qf;have zR:=aa (rY.o.trans (if_neg (by rw[h3,h5];simp)));(have hown:∀ b,b<w.heap.size→some b≠v.ownBlock:=fun b hb e=>by have:=(Mr.o.own.lt b e.symm).1;omega);have E6:=aa ((HX.o.mono (S':=fun b=>(S b∧b<w.heap.size)∧some b≠v.ownBlock) fun b hb hS=>⟨⟨hS,hb⟩,hown b hb⟩).keep (cB.cA Mr.o.low));have z0:=Mr.o.b0.cell;have hs6:=Mr.o.size;clear hown HX rY;go_wp2_with (at_builtin;refine dz (R:=di) (S:=fun b=>S b∧b<w.heap.size) (xs:=acc) (ys:=[.mk eR yn eT eU ar]) (T:=47) (t:=45) (B:=w.heap.size+1+1+1) rfl (.tmp 43) (.tmp 46) 45 rfl rfl Ot (Mr.o.own.bZ (cS _)) rfl _ 1 1 rfl rfl ?hN ?hl ?hB rfl (n:=acc.length+1) rfl ?_);(case hN=>exact qQ.iM (R:=di) (cs:=[_,_,_,_,_]) E6.o _ rfl);(case hl=>rw[gY.o];omega);(case hB=>omega);intro A9 c9 w9 Ba HG;have HJ9:=aa (Mr.o.more HG.o);have l9:=HG.o.bZ (Mr.o.own.bZ (cS _)) aJ;have k9:cN w9 w 47 [bU op,bU n,bV un,bV nm,v]:=(l9.block _ af).trans ((heap_alloc_old _ _ af).trans Mr.o.b0);have c9':=k9.cell;have f9:=k9.frozen;have HLen9:=aa (show(acc++[cw.mk eR yn eT eU ar]).length=k+1 by rw[aao,gY.o];rfl);have HBd9:=aa (show 0≤a'∧a'≤200∧0≤b'∧b'≤20 by omega);clear HG l9 k9 Mr E6 z0 z2 z7 HJ gY jy;go_wp2;go_roundw;exact⟨k+1,_,acc++[.mk eR yn eT eU ar],a',b',by omega,rfl,HJ9,HLen9,HBd9,zR⟩;simp[intOf];omega
 (obtain rfl:k=l.length:=by omega);have HR:=aa (show xO op n un nm 1 1 [] l=⟨.mk op n un nm acc,a,b,false⟩ by rw[HA.o,List.drop_length];rfl);obtain⟨Av,cv,hv,_,_⟩:=HJ.o.own.slice;subst hv;have hs:=HJ.o.size;obtain⟨wz,Jg,hkz,kz,hbz⟩:=put5 HJ.o.b2 (.int .i64 op) (.int .i64 n) (bV un) (bV nm) (bW Av acc cv);have k1z:cN wz (w+1) 176 [.int .i64 0,.int .i64 0,bV ⟨#[]⟩,bV ⟨#[]⟩,cD,.int .i64 0,.int .i64 0,.bool false]:=(kz.2 _ af af).trans HJ.o.b1;obtain⟨wF,qE,qF,kF,pZ⟩:=CX k1z rfl (.int .i64 op) (.int .i64 n) (bV un) (bV nm) (bW Av acc cv) (.int .i64 a) (.int .i64 b) (.bool false);have HE:=aa (show pY S (xO op n un nm 1 1 [] l) w (.returned (.agg #[.int .i64 op,.int .i64 n,bV un,bV nm,bW Av acc cv,.int .i64 a,.int .i64 b,.bool false])) wF by
  rw[HR.o];have hq:Sq di wr (fun b=>S b∧b<w.heap.size∨w.heap.size+1+1+1≤b) Av acc:=(HJ.o.own.mono (S':=fun b=>S b∧b<w.heap.size∨w.heap.size+1+1+1≤b) fun b _ h=> .inl h).sq fun b _ h=> .inr h;have hk:cB (fun b=>S b∧b<w.heap.size∨w.heap.size+1+1+1≤b) wr wF:=cB.trans ⟨kz.1,fun b hb h=>kz.2 b hb af⟩ ⟨kF.1,fun b hb h=>kF.2 b hb af⟩;exact⟨_,rfl,⟨[_,_,_,_,_],rfl,.of ((hq.keep hk).mono fun b _ h=>h.elim (fun h=> .inl h.1) fun h=> .inr af)⟩,pZ _ _ (hbz _ _ HJ.o.low af) af⟩)
 have z0:=HJ.o.b0.cell;have z2:=HJ.o.b2.cell;have f2:=HJ.o.b2.frozen;have zz:=hkz.cell;have z1:=k1z.cell;have f1:=k1z.frozen;have zF:=qF.cell;have HWZ:=aa Jg;have r6:=aa qE;have hp1:w.heap.size+1<wr:=af;have hp2:w.heap.size+1+1<wr:=af;clear Jg qE hkz kz hbz k1z qF kF pZ HA HR HJ gY jy HS HO;go_upto_region 13 with fail;rw[← HWZ.o];clear z0 z2 f2;go_wp2_with fail;rw[← r6.o];exact bodyPost_ret (by simp[results,results149,go_sem,zF]) rfl (HP.o _ _ HE.o)
end
end Go.Proofs.YtfppbjfnllhgcaaGreat
