/- Parts of the proof, packed (Frac to Copied); each theorem bears its own conditions. -/
import Derived.Test.YtkfofnjfihfgkaaGreatDoorPz07
set_option linter.unusedVariables false
set_option linter.unusedSimpArgs false
set_option maxRecDepth 100000
set_option maxHeartbeats 8000000
open Go.Proofs.Tryz
open Go.Lib renaming hid → aa
theorem bM {p:Prop} (h:p:=by simp[World.setCell]):p:=h
namespace Go.Proofs.YtkfofnjfihfgkaaGreatDoor
open Go Go.RowKit Bg Go.Proofs
section
theorem Vj {M n G:Nat} {s:Int} {A:Option Addr} (c:Nat) (w:World) (h:cZ M w s A n (qi 1 G)) (h0:G≠0) (hM:M≤1000000):Calls prog 237 #[.agg #[bR s,bQ A n c]] w (Qc (G==1) w):=by
 have hs:s=1:=(by rw[← h.1];unfold qi;rw[if_neg h0]);subst hs;have hi:=fun W (h:cZ M W 1 A n (qi 1 G))=>ZQ c W h (mV (.inl rfl)) hM;rw[wC]at hi;have HI:=aa hi;have H:=aa h;clear hi h h0;go_enter func237,ntmps237;go_wp2_with fail;refine(HI.o _ (H.o.alloc _)).mono ?_;rintro e w1 ⟨z,ok,rfl,hok,hb1⟩;have iM:Below w w w1:=((Below.refl _ w).alloc (Nat.le_refl _) _).trans (hb1.mono aj);have HO:=aa hok;clear hb1 hok;cases ok with
 |true=>
  go_wp2;go_ret;exact⟨cK (by have:=HO.o;simpa using this),iM⟩
 |false=>
  go_wp2;go_ret;exact⟨cK (by have:=HO.o;simpa using this),iM⟩
def dI (M:Nat) (w:World) (s:Int) (A:Option Addr) (n:Nat) (t:Int) (B:Option Addr) (m:Nat) (f:eD):Prop:=cZ M w s A n f.p∧cZ M w t B m f.q
section
variable {M n m:Nat} {w w':World} {s t:Int} {A B:Option Addr} {f:eD}
theorem dI.bU (h:dI M w s A n t B m f) (hb:Below w w w'):dI M w' s A n t B m f:=⟨h.1.bU hb,h.2.bU hb⟩
theorem dI.alloc (h:dI M w s A n t B m f) (o:Obj):dI M (w.alloc o) s A n t B m f:=⟨h.1.alloc o,h.2.alloc o⟩
theorem dI.drew (h:dI M w s A n t B m f):dI M w.drew s A n t B m f:=h
theorem dI.drewN (h:dI M w s A n t B m f) (k:Nat):dI M (w.drewN k) s A n t B m f:=h
end
theorem si {M n m:Nat} {s t:Int} {A B:Option Addr} {f:eD} (c d:Nat) (w:World) (h:dI M w s A n t B m f) (hM:M+M≤400000):Calls prog 200 #[.agg #[bR s,bQ A n c,bR t,bQ B m d]] w (Qc (dF f) w):=by
 have hp:=fun W (h:cZ M W s A n f.p)=>jk c h af;have hq:=fun W (h:cZ M W t B m f.q)=>jk d h af;have H:=aa h;have ht:=h.2.1;cases IM:dx f.p with
 |false=>
  have HN:=aa (show dF f=false by simp[dF,IM]);rw[IM]at hp;have HP:=aa hp;clear hp hq IM h ht;go_enter func200,ntmps200;go_wp2_with fail;refine(HP.o _ (H.o.1.alloc _)).mono ?_;rintro e w1 ⟨rfl,hb1⟩;have iM:Below w w w1:=((Below.refl _ w).alloc (Nat.le_refl _) _).trans (hb1.mono aj);clear hb1;go_wp2;go_ret;exact⟨cK HN.o.symm,iM⟩
 |true=>
  cases Qn:dx f.q with
  |false=>
   have HN:=aa (show dF f=false by simp[dF,Qn]);rw[IM]at hp;rw[Qn]at hq;have HP:=aa hp;have HQ:=aa hq;clear hp hq IM Qn h ht;go_enter func200,ntmps200;go_wp2_with fail;refine(HP.o _ (H.o.1.alloc _)).mono ?_;rintro e w1 ⟨rfl,hb1⟩;have iM:Below w w w1:=((Below.refl _ w).alloc (Nat.le_refl _) _).trans (hb1.mono aj);have e2:bW w1 w 2 (bR t):=(hb1.cell (p:=bS w 2) aj).trans aj;have e3:bW w1 w 3 (bQ B m d):=(hb1.cell (p:=bS w 3) aj).trans aj;have HB:=aa iM;clear hb1 iM;go_wp2_with fail;refine(HQ.o _ (H.o.2.bU HB.o)).mono ?_;rintro e w2 ⟨rfl,hb2⟩;have iM:Below w w w2:=HB.o.trans (hb2.mono HB.o.size);clear hb2;go_wp2;go_ret;exact⟨cK HN.o.symm,iM⟩
  |true=>
   rw[IM]at hp;rw[Qn]at hq;have HP:=aa hp;have HQ:=aa hq;have HG:=aa (fun W (k:dI M W s A n t B m f)=>Ql c d W k.1 k.2 IM Qn hM);by_cases IE:t=1
   ·have h0:Nat.gcd (dJ f.p) (dJ f.q)≠0:=by
     intro e;have:=Nat.eq_zero_of_gcd_eq_zero_right e;have:=(lC Qn).1 this;omega
    have HN:=aa (show dF f=(Nat.gcd (dJ f.p) (dJ f.q)==1) by simp[dF,IM,Qn,ht,IE]);have hne:(t != 1)=false:=(by simpa using IE);generalize Nat.gcd (dJ f.p) (dJ f.q)=G at*;clear hp hq IM Qn h ht IE;go_enter func200,ntmps200;go_wp2_with fail;refine(HP.o _ (H.o.1.alloc _)).mono ?_;rintro e w1 ⟨rfl,hb1⟩;have iM:Below w w w1:=((Below.refl _ w).alloc (Nat.le_refl _) _).trans (hb1.mono aj);(have hz1:w.heap.size<w1:=by have:=hb1.size;simp at this;omega);have e0:bW w1 w 0 (bR s):=(hb1.cell (p:=bS w 0) aj).trans aj;have e1:bW w1 w 1 (bQ A n c):=(hb1.cell (p:=bS w 1) aj).trans aj;have e2:bW w1 w 2 (bR t):=(hb1.cell (p:=bS w 2) aj).trans aj;have e3:bW w1 w 3 (bQ B m d):=(hb1.cell (p:=bS w 3) aj).trans aj;have HB:=aa iM;clear hb1 iM;go_wp2_with fail;refine(HQ.o _ (H.o.2.bU HB.o)).mono ?_;rintro e w2 ⟨rfl,hb2⟩;have k0:=(hb2.cell (p:=bS w 0) hz1).trans e0;have k1:=(hb2.cell (p:=bS w 1) hz1).trans e1;have k2:=(hb2.cell (p:=bS w 2) hz1).trans e2;have k3:=(hb2.cell (p:=bS w 3) hz1).trans e3;have eT:=aa (HB.o.trans (hb2.mono HB.o.size));clear hb2 e0 e1 e2 e3;go_wp2_with fail;refine(HG.o _ (H.o.bU eT.o)).mono ?_;rintro e w3 ⟨s3,A3,n3,c3,rfl,Cz,hf3,hb3⟩;have gV:=aa (eT.o.trans (hb3.mono eT.o.size));have FB:=aa Cz;clear hb3 hf3 Cz k0 k1 k2 k3;go_wp2_with fail;refine(Vj c3 _ (FB.o.alloc _) h0 af).mono ?_;rintro e w4 ⟨rfl,hb4⟩;have iM:Below w w w4:=(gV.o.alloc gV.o.size _).trans (hb4.mono (by have:=gV.o.size;simp<;>omega));clear hb4;go_wp2;go_ret;exact⟨cK HN.o.symm,iM⟩
   have HN:=aa (show dF f=false by simp[dF,ht,IE]);have hne:(t != 1)=true:=(by simpa using IE);clear hp hq IM Qn h ht IE;go_enter func200,ntmps200;go_wp2_with fail;refine(HP.o _ (H.o.1.alloc _)).mono ?_;rintro e w1 ⟨rfl,hb1⟩;have iM:Below w w w1:=((Below.refl _ w).alloc (Nat.le_refl _) _).trans (hb1.mono aj);(have hz1:w.heap.size<w1:=by have:=hb1.size;simp at this;omega);have e2:bW w1 w 2 (bR t):=(hb1.cell (p:=bS w 2) aj).trans aj;have e3:bW w1 w 3 (bQ B m d):=(hb1.cell (p:=bS w 3) aj).trans aj;have HB:=aa iM;clear hb1 iM;go_wp2_with fail;refine(HQ.o _ (H.o.2.bU HB.o)).mono ?_;rintro e w2 ⟨rfl,hb2⟩;have k2:=(hb2.cell (p:=bS w 2) hz1).trans e2;have iM:Below w w w2:=HB.o.trans (hb2.mono HB.o.size);clear hb2 e2 e3;go_wp2;go_ret;exact⟨cK HN.o.symm,iM⟩
end
theorem sj {M M' n n':Nat} {s s':Int} {A A':Option Addr} {a b:iC} (c c':Nat) (w:World) (h:cZ M w s A n a) (h':cZ M' w s' A' n' b) (sU:dx a=true) (hrb:dx b=true) (hM:M+M'≤1000000):Calls prog 201 #[.agg #[bR s,bQ A n c],.agg #[bR s',bQ A' n' c']] w (Vd (M+M') (sS a b) w):=by
 have HM:=aa (fun W (k:cZ M W s A n a) (k':cZ M' W s' A' n' b)=>Ve c c' W k k' sU hrb hM);have H:=aa h;have H':=aa h';clear h h' sU hrb;go_enter func201,ntmps201;go_wp2_with fail;refine(HM.o _ (((H.o.alloc _).alloc _).alloc _) (((H'.o.alloc _).alloc _).alloc _)).mono ?_;rintro e w1 ⟨s3,A3,n3,c3,rfl,Cz,hf3,hb1⟩;have iM:Below w w w1:=((((Below.refl _ w).alloc (Nat.le_refl _) _).alloc ak _).alloc ak _).trans (hb1.mono ak);(have hz1:w.heap.size+1+1<w1:=by have:=hb1.size;simp at this;omega);have e20:bW w1 (w+1+1) 0 (bR 0):=(hb1.cell (p:=bS (w+1+1) 0) ak).trans ax;have e20f:w1.frozen? (bS (w+1+1) 0)=false:=(hb1.frozen (p:=bS (w+1+1) 0) ak).trans ax;have e21:bW w1 (w+1+1) 1 (bQ none 0 0):=(hb1.cell (p:=bS (w+1+1) 1) ak).trans ax;have e21f:w1.frozen? (bS (w+1+1) 1)=false:=(hb1.frozen (p:=bS (w+1+1) 1) ak).trans ax;have HB:=aa iM;have FB:=aa Cz;have hf:dM (w+1+1+1) A3:=hf3.low aj;have IK:=aa hf;clear hb1 iM Cz hf3 hf;have fH:=(HB.o.setCell (p:=bS (w+1+1) 0) (show w.heap.size≤w.heap.size+1+1 by omega) (bR s3)).setCell (p:=bS (w+1+1) 1) (show w.heap.size≤w.heap.size+1+1 by omega) (bQ A3 n3 c3);have fu:=aa (fH.alloc fH.size (.cells #[bR s3,bQ A3 n3 c3] 91));clear fH;go_wp2;exact bodyPost_ret (v:= .agg #[bR s3,bQ A3 n3 c3]) (by simp[results,results201,go_sem,e20,e21,hz1]) rfl ⟨s3,A3,n3,c3,rfl,((FB.o.b_ IK.o af _).b_ IK.o af _).alloc _,IK.o.low af,fu.o⟩
def CA (k:Nat):Nat:=if k=0 then 9223372036854775808 else if k=1 then 8796093022208 else if k=2 then 8388608 else if k=3 then 8 else 1
theorem MX {k u:Nat} (hk:k≤4) (hu:u<CA k) (h0:0<u):k+1≤4∧u / 1048576<CA (k+1):=by
 (have:k=0∨k=1∨k=2∨k=3∨k=4:=by omega);rcases this with rfl|rfl|rfl|rfl|rfl<;>simp[CA]at hu ⊢ <;>omega
theorem Vk {k u:Nat} (hu:u<CA k):u<9223372036854775808:=by
 unfold CA at hu;split at hu
 (·exact hu);split at hu
 (·omega);split at hu
 (·omega);split at hu<;>omega
theorem Vl (n:Nat) (h:n<9223372036854775808) (W:World):(convert 3 259 (bR (n:Int))).run prog W= .ok (.int .u64 (n:Int)) W:=by
 have e:IntKind.u64.wrap (n:Int)=(n:Int):=(by rw[IntKind.wrap_u64];omega);simp[convert,run_underlying Tryz.underlying3,run_underlying Tryz.underlying259,go_sem,e]
def OfAt (n B:Nat) (w wr:World) (v:Value) (u:Nat):Prop:=
 ∃ xs:List Nat,xs.length≤4∧gj xs∧val xs+1048576 ^ xs.length*u=n∧u<CA xs.length∧wr.ownsRow B 3 1 v xs.length (xs.map nv)∧Below w w wr∧w.heap.size<B∧B≤wr.heap.size∧
  wr.heap[w.heap.size]? =some (.cells #[bR 0,cG] 91 (0,0))
theorem MZ (u:Nat):bits .and .u64 (u:Int) 1048575=((u % 1048576:Nat):Int):=by
 show IntKind.u64.wrap ((BitVec.ofInt 64 (u:Int)&&& BitVec.ofInt 64 1048575).toNat:Int)=_;have e:(BitVec.ofInt 64 1048575).toNat=2 ^ 20 - 1:=ag;rw[BitVec.toNat_and,e,Nat.and_two_pow_sub_one_eq_mod,toNat_ofInt,IntKind.wrap_u64];omega
theorem Vm (u:Nat) (h:u<9223372036854775808) (W:World):(convert 259 3 (.int .u64 (u:Int))).run prog W= .ok (bR (u:Int)) W:=by
 simp[go_sem];exact fC af
theorem GZ (n:Nat) (hn:n<9223372036854775808) (w:World):Calls prog 164 #[bR (n:Int)] w (Vd 4 (qi 1 n) w):=by
 have hcv:=fun W=>Vl n hn W;have hneg:decide ((n:Int)<0)=false:=aj;go_enter func164,ntmps164;go_wp2_with fail;go_loopg [4,5] n (fun u v4 v5 wr=>v4= .int .u64 (u:Int)∧Hid (OfAt n (w+1) w wr v5 u));(case atStart=>refine⟨rfl,[],by simp,gj.nil,by simp[val],by simpa [CA]using hn,⟨by simp,.inl ⟨rfl,rfl⟩⟩,cJ _,by omega,by simp,heap_alloc_new w _⟩);obtain⟨rfl,HO⟩:=hrel;obtain⟨xs,hl4,RT,hval,ZR,hown,iM,hwB,hBr,hblk⟩:=HO.o;have hlt:=Vk ZR;by_cases h0:gk=0
 ·subst h0;have hxv:val xs=n:=(by simpa using hval);have HXV:=aa hxv;have vS:∃ A c,u5=bQ A xs c:=by
   obtain⟨A,c,e,_⟩:=iU hown;exact⟨A,c,e⟩
  obtain⟨A,c,rfl⟩:=vS;have ha:=Qg hown;have HSG:=aa (pg (n:=xs.length) 4 1 xs A c wr rfl RT ha.1 ha.2.1 hl4 af);have hfr:dM (w+1) A:=ha.2.2;have Em:=aa hfr;have Uc:=aa hblk;have oH:=aa iM;clear hval hxv RT hown hblk iM hcv hneg ZR HO ha hfr;go_wp2_with fail;refine HSG.o.mono ?_;rintro e w5 ⟨s5,A5,n5,c5,rfl,p9,RS,fH⟩;have fu:=aa (oH.o.trans (fH.mono oH.o.size));have mg:=aa (o_ RS Em.o);have uo:=aa p9;have nk:=aa (show cH w5 w 91 [bR 0,cG]from cH.bU (t:=91) (cs:=[bR 0,cG]) Uc.o fH af);have m4:bW w5 w 0 (bR 0):=nk.o.cell 0;have m5:bW w5 w 1 (bQ none 0 0):=nk.o.cell 1;have m4f:w5.frozen? (bS w 0)=false:=nk.o.frozen 0;have m5f:w5.frozen? (bS w 1)=false:=nk.o.frozen 1;clear fH RS p9;go_wp2;have hf:dM (w+1) A5:=mg.o;(have hA:cZ 4 w5 s5 A5 n5 (qi 1 n):=by have:=uo.o;rw[HXV.o]at this;exact this);exact bodyPost_ret (v:= .agg #[bR s5,bQ A5 n5 c5]) (by simp[results,results164,go_sem,m4,m5]) rfl ⟨s5,A5,n5,c5,rfl,(hA.b_ hf af _).b_ hf af _,hf.low af,(fu.o.setCell (p:=bS w 0) (Nat.le_refl _) _).setCell (p:=bS w 1) (Nat.le_refl _) _⟩
 have hst:=MX hl4 ZR af;have hgt:decide ((0:Int)<(gk:Int))=true:=aq;have hand:=MZ gk;have hcd:=fun W=>Vm (gk % 1048576) af W;obtain⟨i0,ug,hz0,hz1,hz2⟩:=info_parts Qf;have HV:=aa hval;have HDX:=aa RT;have HOW:=aa hown;have Uc:=aa hblk;have oH:=aa iM;have HOWA:=aa (rT hown ((Below.refl _ wr).alloc (Nat.le_refl _) (.cells #[bR ((gk:Int) % 1048576)] 3)));have IW:=fun g hg=>(nV hown g hg).1;have HG5:=aa IW;clear hval RT hown hblk iM hcv hneg ZR HO IW;go_wp2_with (at_builtin;refine eZ _ rfl (.tmp 16) (.tmp 20) _ rfl (w+1) 3 i0 _ 1 8 Tryz.underlying46 ug hz0 hz1 hz2 rfl af _ xs.length (xs.map nv) rfl HOWA.o (wr+1) (bS wr 0) 1 1 [bR ((gk:Int) % 1048576)] rfl ?c2 ?c6 ?c3 ?c4 ?c5 ?_);(case c2=>simpa using vv wr [bR ((gk:Int) % 1048576)] 3 1 1 rfl);(case c6=>intro u hu;simp at hu;subst hu;rfl);(case c3=>unfold maxLen;omega);(case c4=>omega);(case c5=>simp;omega);intro v9 w9 qu rI yG;have HO9:=aa (show OfAt n (w+1) w w9 v9 (gk / 1048576)from by
  refine⟨xs++[gk % 1048576],by simpa using hst.1,HDX.o.app (gj.cons af gj.nil),?_,by simpa using hst.2,by simpa [nv]using qu,?_,by omega,?_,?_⟩
  (·rw[nQ];have:=HV.o;simp only[val,List.length_append,List.length_cons,List.length_nil,Nat.zero_add,Nat.pow_succ];have e:=Nat.div_add_mod gk 1048576;rw[← this,Nat.add_assoc,Nat.mul_assoc, ← Nat.mul_add];congr 2;omega)
  (·exact(oH.o.alloc af _).grown rI aq (fun g hg=>by have:=HG5.o g hg;omega))
  (·have:=rI.size;simp at this;omega);rw[rI.block w aq (fun e=>by have:=HG5.o _ e.symm;omega),Below.heap_alloc _ _ _ af];exact Uc.o)
 clear qu rI yG;go_wp2_with fail;go_roundg (gk / 1048576);(case measure=>omega);(case rel=>exact⟨by simp,HO9.o⟩)
theorem iu {W w1:World} (hb:Below W W w1):(∀ b o,b<W.heap.size→w1.cell? (bS b o)=W.cell? (bS b o))∧(∀ b o,b<W.heap.size→w1.frozen? (bS b o)=W.frozen? (bS b o)):=
 ⟨fun b o h=>hb.cell (p:=bS b o) h,fun b o h=>hb.frozen (p:=bS b o) h⟩
theorem RU {a b:iC} {M M' n n':Nat} {w:World} {s s':Int} {A A':Option Addr} (h:cZ M w s A n a) (h':cZ M' w s' A' n' b) (sU:dx a=true) (hrb:dx b=true) (hb:s'=1) (c c':Nat) (hM:M≤400000) (hM':M'≤400000):Calls prog 274 #[bQ A n c,bQ A' n' c'] w (uk (dJ a) (dJ b) w):=by
 obtain⟨p1,p2,p3,p4,p5,p6⟩:=ir h sU;obtain⟨q1,q2,q3,q4,q5,q6⟩:=ir h' hrb;have hle:=h.le;have hle':=h'.le;have:=Qh (jy a.dg) (jy b.dg) A A' c c' w p2 q2 p3 q3 af af (fun e=>by
  rw[e]at q6;have:=q6.2 rfl;omega)
 rw[p1,q1]at this;exact this
def Vn (M M':Nat) (q r:iC) (w:World) (e:Ending) (w':World):Prop:=
 ∃ s A n c t B m d,e= .returned (.tuple #[.agg #[bR s,bQ A n c],.agg #[bR t,bQ B m d],bR 0])∧cZ M w' s A n q∧cZ M' w' t B m r∧(dM w A∧dM w B)∧Below w w w'
theorem J6 {M M' n n':Nat} {s s':Int} {A A':Option Addr} {a b:iC} (c c':Nat) (w:World) (h:cZ M w s A n a) (h':cZ M' w s' A' n' b) (sU:dx a=true) (hrb:dx b=true) (hs:s'=1) (hx:0≤s∨dJ a % dJ b=0) (hM:M≤400000) (hM':M'≤400000):Calls prog 236 #[.agg #[bR s,bQ A n c],.agg #[bR s',bQ A' n' c']] w (Vn M M' (qi s (dJ a / dJ b)) (qi s (dJ a % dJ b)) w):=by
 have hr:=fun W (h:cZ M W s A n a)=>jk c h af;have hr':=fun W (h:cZ M' W s' A' n' b)=>jk c' h af;rw[sU]at hr;rw[hrb]at hr';have H:=aa h;have H':=aa h';have HR:=aa hr;have Vf:=aa hr';have HD:=aa (fun W (k:cZ M W s A n a) (k':cZ M' W s' A' n' b)=>RU k k' sU hrb hs c c' hM hM');(have En:-1≤s∧s≤1:=by have:=(ir h sU);exact⟨this.2.2.2.1,this.2.2.2.2.1⟩);have RV:=aa sU;have J8:=aa hrb;have HPB:=aa (show 0<dJ b from by
  have h9:=(ir h' hrb).2.2.2.2.2;(have:dJ b≠0:=fun e=>by have:=h9.2 e;omega);omega)
 clear h h' hr hr' sU hrb;subst hs;go_enter func236,ntmps236;go_wp2_with fail;refine(HR.o _ ((((H.o.alloc _).alloc _).alloc _).alloc _)).mono ?_;rintro e w1 ⟨rfl,hb1⟩;have eJ:=aa (show Below w w w1 from(((((Below.refl _ w).alloc (Nat.le_refl _) _).alloc aj _).alloc aq _).alloc aq _).trans (hb1.mono aq));obtain⟨hc1,jH⟩:=iu hb1;have hz1:=hb1.size;simp only[World.size_alloc]at hz1;have z0:w.heap.size<w1:=af;have z1:w.heap.size+1<w1:=af;have z2:w.heap.size+1+1<w1:=af;have z3:w.heap.size+1+1+1<w1:=af;clear hb1 hz1;go_wp2_with fail;refine(Vf.o _ (H'.o.bU eJ.o)).mono ?_;rintro e w2 ⟨rfl,hb2⟩;have eT:=aa (eJ.o.trans (hb2.mono eJ.o.size));obtain⟨hc2,hf2⟩:=iu hb2;have hz2:=hb2.size;have y0:w.heap.size<w2:=af;have y1:w.heap.size+1<w2:=af;have y2:w.heap.size+1+1<w2:=af;have y3:w.heap.size+1+1+1<w2:=af;clear hb2 hz2;go_wp2_with fail;refine(HD.o _ (H.o.bU eT.o) (H'.o.bU eT.o)).mono ?_;rintro e w3 ⟨q,r,rfl,⟨Aq,cq,rfl,U_,haq,hfq⟩,⟨Ar,cr,rfl,hlr,har,hfr⟩,hb3⟩;have gV:=aa (eT.o.trans (hb3.mono eT.o.size));obtain⟨hc3,hf3⟩:=iu hb3;have hz3:=hb3.size;have x0:w.heap.size<w3:=af;have x1:w.heap.size+1<w3:=af;have x2:w.heap.size+1+1<w3:=af;have x3:w.heap.size+1+1+1<w3:=af;have hmul:IntKind.i64.wrap s=s:=fC af;have HAQ:=aa haq;have HAR:=aa har;have Ug:=aa U_;have HLR:=aa hlr;have HFQ:=aa (show dM w2 Aq from hfq);have Em:=aa (show dM w2 Ar from hfr);have sY:=aa (fun W (k:je W Aq ((gm (dJ a / dJ b)).map nv))=>pg (n:=(gm (dJ a / dJ b)).length) M s (gm (dJ a / dJ b)) Aq cq W rfl (nR _) k U_ (by
  have:=ki (Nat.div_le_self (dJ a) (dJ b));have e:=(ir H.o RV.o).1;have e2:=H.o.le;have e3:=kN (ir H.o RV.o).2.1;have e4:(gm (dJ a)).length=n:=(congrArg List.length e3).symm.trans e;omega) af)
 have m_:=aa (fun W (k:je W Ar ((gm (dJ a % dJ b)).map nv))=>pg (n:=(gm (dJ a % dJ b)).length) M' s (gm (dJ a % dJ b)) Ar cr W rfl (nR _) k hlr (by
  have e0:0<dJ b:=HPB.o;have:=ki (Nat.le_of_lt (Nat.mod_lt (dJ a) e0));have e:=(ir H'.o J8.o).1;have e2:=H'.o.le;have e3:=kN (ir H'.o J8.o).2.1;have e4:(gm (dJ b)).length=n':=(congrArg List.length e3).symm.trans e;omega) af)
 clear hb3 haq har U_ hlr hfq hfr;have s0:bW w3 w 0 (bR s):=(hc3 _ _ y0).trans ((hc2 _ _ z0).trans ((hc1 _ _ ak).trans ax));have s1:bW w3 w 1 (bQ A n c):=(hc3 _ _ y0).trans ((hc2 _ _ z0).trans ((hc1 _ _ ak).trans ax));have s2:bW w3 (w+1) 0 (bR 1):=(hc3 _ _ y1).trans ((hc2 _ _ z1).trans ((hc1 _ _ ak).trans ax));have s3:bW w3 (w+1) 1 (bQ A' n' c'):=(hc3 _ _ y1).trans ((hc2 _ _ z1).trans ((hc1 _ _ ak).trans ax));have s4:bW w3 (w+1+1) 0 (bR 0):=(hc3 _ _ y2).trans ((hc2 _ _ z2).trans ((hc1 _ _ ak).trans ax));have s4f:w3.frozen? (bS (w+1+1) 0)=false:=(hf3 _ _ y2).trans ((hf2 _ _ z2).trans ((jH _ _ ak).trans ax));have s5:bW w3 (w+1+1) 1 (bQ none 0 0):=(hc3 _ _ y2).trans ((hc2 _ _ z2).trans ((hc1 _ _ ak).trans ax));have s5f:w3.frozen? (bS (w+1+1) 1)=false:=(hf3 _ _ y2).trans ((hf2 _ _ z2).trans ((jH _ _ ak).trans ax));have s6:bW w3 (w+1+1+1) 0 (bR 0):=(hc3 _ _ y3).trans ((hc2 _ _ z3).trans ((hc1 _ _ ak).trans ax));have s6f:w3.frozen? (bS (w+1+1+1) 0)=false:=(hf3 _ _ y3).trans ((hf2 _ _ z3).trans ((jH _ _ ak).trans ax));have s7:bW w3 (w+1+1+1) 1 (bQ none 0 0):=(hc3 _ _ y3).trans ((hc2 _ _ z3).trans ((hc1 _ _ ak).trans ax));have s7f:w3.frozen? (bS (w+1+1+1) 1)=false:=(hf3 _ _ y3).trans ((hf2 _ _ z3).trans ((jH _ _ ak).trans ax));clear hc1 hc2 hc3 jH hf2 hf3;have Qo:(decide (s<0)=false)∨(decide (s<0)=true∧¬0<(gm (dJ a % dJ b)).length):=by
  rcases Int.lt_or_le s 0 with h|h
  ·right;refine⟨by simpa using h,?_⟩;rcases hx with hx|hx
   (·omega);rw[hx,gp];simp
  left;simpa using h
 have HC:=aa Qo;clear Qo hx;have hvq:=jP (dJ a / dJ b);have hvr:=jP (dJ a % dJ b);have HVQ:=aa hvq;have HVR:=aa hvr;clear hvq hvr;have ne1:¬(w.heap.size=w.heap.size+1+1):=af;have ne2:¬(w.heap.size+1+1=w):=af;have ne3:¬(w.heap.size=w.heap.size+1+1+1):=af;have ne4:¬(w.heap.size+1+1+1=w):=af;rcases HC.o with hneg|⟨hneg,hl0⟩<;>
  (clear HC
   go_wp2_with fail
   go_region_held3 (fun w'=>bW w' w 0 (bR s)∧bW w' w 1 (bQ A n c)∧bW w' (w+1) 0 (bR 1)∧bW w' (w+1) 1 (bQ A' n' c')) (go_keep)
    (first
     |(go_at_call 197;(with_reducible refine(sY.o _ HAQ.o.drew).mono ?_);rintro e w4 ⟨i4,A4,n4,c4,rfl,FC,L9,hb4⟩;have J5:=aa FC;have GX:=aa (o_ L9 HFQ.o);have mm:=aa (dR hb4);obtain⟨vT,hg4⟩:=iu (dR hb4);have M0:=aa (dR hb4).size;have q0:w.heap.size<w4:=Nat.lt_of_lt_of_le x0 M0.o;have q1:w.heap.size+1<w4:=Nat.lt_of_lt_of_le x1 M0.o;have q2:w.heap.size+1+1<w4:=Nat.lt_of_lt_of_le x2 M0.o;have q3:w.heap.size+1+1+1<w4:=Nat.lt_of_lt_of_le x3 M0.o;clear hb4 L9 FC)
     |(go_at_call 197;(with_reducible refine(m_.o _ (HAR.o.bU mm.o)).mono ?_);rintro e w5 ⟨i5,A5,n5,c5,rfl,p9,RS,fH⟩;have uo:=aa p9;have mg:=aa (o_ RS Em.o);have fu:=aa fH;obtain⟨sV,IW⟩:=iu fH;have AX:=aa fH.size;have p0:w.heap.size<w5:=Nat.lt_of_lt_of_le q0 AX.o;have p1:w.heap.size+1<w5:=Nat.lt_of_lt_of_le q1 AX.o;have p2:w.heap.size+1+1<w5:=Nat.lt_of_lt_of_le q2 AX.o;have p3:w.heap.size+1+1+1<w5:=Nat.lt_of_lt_of_le q3 AX.o;clear fH RS p9))
   go_wp2
   have e1:bW w5 (w+1+1) 0 (bR 0):=(sV _ _ q2).trans ((vT _ _ x2).trans s4)
   have e2:bW w5 (w+1+1) 1 (bQ none 0 0):=(sV _ _ q2).trans ((vT _ _ x2).trans s5)
   have e3:bW w5 (w+1+1+1) 0 (bR 0):=(sV _ _ q3).trans ((vT _ _ x3).trans s6)
   have e4:bW w5 (w+1+1+1) 1 (bQ none 0 0):=(sV _ _ q3).trans ((vT _ _ x3).trans s7)
   have vU:dM w2 A4:=GX.o
   have sk:dM w2 A5:=mg.o
   have i1:=((((J5.o.bU fu.o).b_ (i:=0) vU y2 (bR i4)).b_ (i:=1) vU y2 (bQ A4 n4 c4)).b_ (i:=0) vU y3 (bR i5)).b_ (i:=1) vU y3 (bQ A5 n5 c5)
   have i2:=(((uo.o.b_ (i:=0) sk y2 (bR i4)).b_ (i:=1) sk y2 (bQ A4 n4 c4)).b_ (i:=0) sk y3 (bR i5)).b_ (i:=1) sk y3 (bQ A5 n5 c5)
   rw[HVQ.o]at i1
   rw[HVR.o]at i2
   have hb0:Below w w w5:=(gV.o.trans (mm.o.mono gV.o.size)).trans (fu.o.mono (Nat.le_of_lt q0))
   have qU:=(((hb0.setCell (p:=bS (w+1+1) 0) (show w.heap.size≤w.heap.size+1+1 by omega) (bR i4)).setCell (p:=bS (w+1+1) 1) (show w.heap.size≤w.heap.size+1+1 by omega) (bQ A4 n4 c4)).setCell (p:=bS (w+1+1+1) 0) (show w.heap.size≤w.heap.size+1+1+1 by omega) (bR i5)).setCell (p:=bS (w+1+1+1) 1) (show w.heap.size≤w.heap.size+1+1+1 by omega) (bQ A5 n5 c5)
   exact bodyPost_ret (v:= .tuple #[.agg #[bR i4,bQ A4 n4 c4],.agg #[bR i5,bQ A5 n5 c5],bR 0]) (by simp[results,results236,go_sem,e1,e2,e3,e4]) rfl ⟨i4,A4,n4,c4,i5,A5,n5,c5,rfl,i1,i2,⟨vU.low eT.o.size,sk.low eT.o.size⟩,qU⟩)
end Go.Proofs.YtkfofnjfihfgkaaGreatDoor
namespace Go.Proofs.YtkfofnjfihfgkaaGreatDoor
open Go Go.RowKit Go.Proofs Sh Kb
section
section
variable {w w' w'':World} {row:Option Nat}
theorem lp (w:World) (row:Option Nat):w.grownBy w row:=⟨rfl,rfl,rfl,Nat.le_refl _,fun _ _ _=>rfl⟩
theorem gK (h:w.grownBy w' row) (k:w'.grownBy w'' row):w.grownBy w'' row:=
 ⟨k.os.trans h.os,k.tape.trans h.tape,k.output.trans h.output,Nat.le_trans h.size k.size,fun b hb hr=>(k.block b (Nat.lt_of_lt_of_le hb h.size) hr).trans (h.block b hb hr)⟩
theorem gL (h:Below w w w') (row:Option Nat):w.grownBy w' row:=⟨h.os,h.tape,h.output,h.size,fun b hb _=>h.block b hb⟩
theorem vC (h:w.grownBy w' row) {b:Nat} (o:Nat) (hb:b<w.heap.size) (hr:some b≠row):w'.cell? (bS b o)=w.cell? (bS b o):=World.cell?_of_block (a:=bS b o) (h.block b hb hr)
theorem jl (h:w.grownBy w' row) {b:Nat} {t:TypeId} {cs:List Value} (hr:some b≠row) (k:cH w b t cs):cH w' b t cs:=(h.block b k.lt hr).trans k
end
section
variable {α:Type} {R:Rel α} {w w' w'':World} {S:Nat→Prop} {v:Value} {xs:List α} {B T:Nat} {row r2:Option Nat}
theorem M3 {e size n:Nat} {us:List Value} (h:w.ownsRow B e size v n us) (hg:w.grownBy w' row) (hr:∀ r,row=some r→r<B):w'.ownsRow B e size v n us:=by
 refine⟨h.1,?_⟩;rcases h.2 with h1|⟨g,cap,cur,rfl,hB,hb,rest⟩
 (·exact .inl h1);refine .inr ⟨g,cap,cur,rfl,hB,?_,rest⟩;rw[hg.block g (Array.getElem?_eq_some_iff.1 hb).1 (fun e=>by have:=hr g e.symm;omega)];exact hb
theorem cV.grown (h:cV R T B w S v xs) (hg:w.grownBy w' row) (hr:∀ r,row=some r→r<B) (hS:∀ b,S b→some b≠row):cV R T B w' S v xs:=by
 obtain⟨css,h1,h2,h3,h4⟩:=h;exact⟨css,h1,M3 h2 hg hr,h3,fun j cs x hc hx=>R.keep (h4 j cs x hc hx) (cA.cW hg fun b q=>hS b q.1)⟩
theorem CB (h:w.grownBy w' row) (k:w'.grownBy w'' r2) (hr:∀ g,r2=some g→w.heap.size≤g):w.grownBy w'' row:=
 ⟨k.os.trans h.os,k.tape.trans h.tape,k.output.trans h.output,Nat.le_trans h.size k.size,fun b hb hb2=>(k.block b (Nat.lt_of_lt_of_le hb h.size) (fun e=>by have:=hr b e.symm;omega)).trans (h.block b hb hb2)⟩
theorem nw (h:w.grownBy w' row) {b i:Nat} (hb:w.heap.size≤b) (u:Value):w.grownBy (w'.setCell (bS b i) u) row:=
 ⟨h.os,h.tape,h.output,by simpa [World.setCell]using h.size,fun c hc hr=>(Below.heap_setCell w' (bS b i) u c (by show c≠b;omega)).trans (h.block c hc hr)⟩
theorem oc (h:w.grownBy w' row) (o:Obj):w.grownBy (w'.alloc o) row:=CB h (gL (cJ o) none) (fun g e=>by cases e)
end
structure Clo (N g:Nat) (lb:Array Value) (Rd:Nat→Prop) (row:Option Nat) (J:List ByteArray→World→Prop) (f:Int→ByteArray→ByteArray) (lg:Int→ByteArray→List ByteArray):Prop where
 enters:∀ args w,(callFunc g args).run prog w= .ok (.enter g args) w
 rd:∀ r,row=some r→Rd r
 keep:∀ {l:List ByteArray} {W W':World},J l W→W.heap.size≤W'→(∀ r,Rd r→W'.heap[r]? =W.heap[r]?)→J l W'
 lt:∀ {l:List ByteArray} {W:World},J l W→∀ r,Rd r→r<W.heap.size
 call:∀ (op:Int) (s:ByteArray) (l:List ByteArray) (W:World),s.size≤N→J l W→Calls prog g (#[bR op,bV s]++lb) W fun e W'=>e= .returned (bV (f op s))∧J (l++lg op s) W'∧W.grownBy W' row
def uq (row:Option Nat) (J:List ByteArray→World→Prop) (l:List ByteArray) (x:cD) (W:World) (e:Ending) (W':World):Prop:=
 ∃ cs,e= .returned (.agg cs.toArray)∧cR W' (fun b=>W.heap.size≤b) cs x∧J l W'∧W.grownBy W' row
structure tJ (row:Option Nat) (J:List ByteArray→World→Prop) (w:World) (px:Nat) (cs:List Value) (v:Value) (xs:List cD) (ls:List ByteArray) (wr:World):Prop where
 b1:cH wr px 54 cs
 b2:cH wr (px+1) 54 [bR 0,bR 0,bV ⟨#[]⟩,bV ⟨#[]⟩,cG]
 own:cV ja 54 (px+2) wr (fun b=>px+2≤b) v xs
 j:J ls wr
 turn:w.grownBy wr row
 size:px+2≤wr.heap.size
section
variable {row:Option Nat} {J:List ByteArray→World→Prop} {w wr w3 w4:World} {px:Nat} {cs cs':List Value} {v v':Value} {xs:List cD} {y:cD} {ls ls':List ByteArray} {o o2:Obj}
theorem tJ.ready (h:tJ row J w px cs v xs ls wr) (hpx:px=w.heap.size) (hr:∀ r,row=some r→r<px) (h3:(wr.alloc o).grownBy w3 row):cV ja 54 (px+2) (w3.alloc o2) (fun b=>px+2≤b) v xs:=
 (((h.own.bU (cJ o)).grown h3 (fun r q=>by have:=hr r q;omega) (fun b hb q=>by have:=hr b q.symm;omega)).bU (cJ o2))
theorem tJ.more {N g:Nat} {lb:Array Value} {Rd:Nat→Prop} {f:Int→ByteArray→ByteArray} {lg:Int→ByteArray→List ByteArray} (C:Clo N g lb Rd row J f lg) (h:tJ row J w px cs v xs ls wr) (hpx:px=w.heap.size) (hr:∀ r,Rd r→r<px) (h3:(wr.alloc o).grownBy w3 row) (hj:J ls' w3) (G:Grown ja 54 (px+2) (w3.alloc o2) (fun b=>px+2≤b) v (xs++[y]) w4 v'):tJ row J w px cs v' (xs++[y]) ls' w4:=by
 have hr0:∀ r,row=some r→r<px:=fun r q=>hr r (C.rd r q);have hO:=h.ready (o2:=o2) hpx hr0 h3;have hv:∀ g,v.ownBlock=some g→px+2≤g:=fun g e=>(hO.lt g e).1;have hs:=h.size;have h3s:=h3.size;have h4s:=G.turn.size;simp at h3s h4s;have hA:wr.grownBy (w3.alloc o2) row:=oc (gK (oc (lp wr row) o) h3) o2;(have hne:∀ b,px≤b→some b≠row:=fun b hb e=>by have:=hr0 b e.symm;omega);have blk:∀ {b:Nat} {t:TypeId} {c:List Value},px≤b→b<px+2→cH wr b t c→cH w4 b t c:=fun {b t c} h1 h2 k=>
  (G.turn.block b aq (fun e=>by have:=hv b e.symm;omega)).trans (jl hA (hne b h1) k)
 refine⟨blk (Nat.le_refl _) af h.b1,blk af af h.b2,G.own,?_,?_,by omega⟩
 (·exact C.keep (C.keep hj (by simp:w3.heap.size≤(w3.alloc o2).heap.size) fun r hr2=>heap_alloc_old _ _ (by have:=hr r hr2;omega)) aq fun r hr2=>G.turn.block r (by have:=hr r hr2;simp;omega) (fun e=>by have:=hv r e.symm;have:=hr r hr2;omega));(exact CB (gK h.turn hA) G.turn fun g e=>by have:=hv g e;omega)
theorem lK {S:Nat→Prop} {b i:Nat} {u:Value} (h:cA S w wr) (hb:¬S b):cA S w (wr.setCell (bS b i) u):=
 ⟨by simpa [World.setCell]using h.1,fun c hc hs=>(Below.heap_setCell wr (bS b i) u c (fun e=>hb (by have e2:c=b:=e;exact e2▸hs))).trans (h.2 c hc hs)⟩
theorem tJ.fin {N g:Nat} {lb:Array Value} {Rd:Nat→Prop} {f:Int→ByteArray→ByteArray} {lg:Int→ByteArray→List ByteArray} (C:Clo N g lb Rd row J f lg) {A:Option Addr} {n c:Nat} (h:tJ row J w px cs (bQ A n c) xs ls wr) (hpx:px=w.heap.size) (hr:∀ r,Rd r→r<px) (u0 u1 u2 u3 u4 u5:Value):
 let wF:=(((((wr.setCell (bS px 4) u0).setCell (bS (px+1) 0) u1).setCell (bS (px+1) 1) u2).setCell (bS (px+1) 2) u3).setCell (bS (px+1) 3) u4).setCell (bS (px+1) 4) u5
 Sq ja wF (fun b=>w.heap.size≤b) A xs∧J ls wF∧w.grownBy wF row:=by
 intro wF
 have K:∀ {S:Nat→Prop},(¬S px)→(¬S (px+1))→cA S wr wF:=fun h1 h2=>lK (lK (lK (lK (lK (lK (cA.refl _ _) h1) h2) h2) h2) h2) h2
 have hs:=h.size
 refine⟨?_,?_,?_⟩
 ·
  have h1:=(h.own.sq (S:=fun b=>px+2≤b) fun b _ hb=>hb).keep (K af af);(exact h1.mono fun b _ hb=>by omega)
 ·
  have h2:=K (S:=fun b=>b<px) af af;exact C.keep h.j h2.1 fun r hr2=>h2.2 r (by have:=hr r hr2;omega) (hr r hr2)
 ·
  exact nw (nw (nw (nw (nw (nw h.turn af _) af _) af _) af _) af _) af _
theorem tJ.ZT (h:tJ row J w px cs v xs ls wr) (u0 u1 u2 u3 u4 u5:Value):cH ((((((wr.setCell (bS px 4) u0).setCell (bS (px+1) 0) u1).setCell (bS (px+1) 1) u2).setCell (bS (px+1) 2) u3).setCell (bS (px+1) 3) u4).setCell (bS (px+1) 4) u5) (px+1) 54 [u1,u2,u3,u4,u5]:=by
 have h0:cH (wr.setCell (bS px 4) u0) (px+1) 54 [bR 0,bR 0,bV ⟨#[]⟩,bV ⟨#[]⟩,cG]:=(Below.heap_setCell wr (bS px 4) u0 (px+1) (by show px+1≠px;omega)).trans h.b2;exact(((((h0.cM 0 u1).cM 1 u2).cM 2 u3).cM 3 u4).cM 4 u5)
end
theorem J9 {N g:Nat} {lb:Array Value} {Rd:Nat→Prop} {row:Option Nat} {J:List ByteArray→World→Prop} {f:Int→ByteArray→ByteArray} {lg:Int→ByteArray→List ByteArray} (C:Clo N g lb Rd row J f lg) (op n:Int) (unit name:ByteArray) (A:Option Addr) (c:Nat) (args:List cD) (S:Nat→Prop) (w:World) (l:List ByteArray) (hn:name.size≤N) (hl:args.length≤1000000000) (hA:Sq ja w S A args) (hS:∀ b,S b→some b≠row) (hJ:J l w) (ih:∀ x∈args,∀ (cs:List Value) (S:Nat→Prop) (W:World) (l:List ByteArray),cR W S cs x→(∀ b,S b→some b≠row)→J l W→Calls prog 33 #[.agg cs.toArray,.func (.func g) #[] lb] W (uq row J (l++tF lg x) (rV f x) W)):Calls prog 33 #[.agg #[bR op,bR n,bV unit,bV name,bQ A args c],.func (.func g) #[] lb] w (uq row J (l++tF lg (.mk op n unit name args)) (rV f (.mk op n unit name args)) w):=by
 have eg:=C.enters;have HC:=aa C;have HA:=aa hA;have HS:=aa hS;have HJ:=aa hJ;have HIH:=aa ih;have HN:=aa hn;generalize hP:uq row J (l++tF lg (.mk op n unit name args)) (rV f (.mk op n unit name args)) w=P;have HP:=aa (show ∀ e w',uq row J (l++tF lg (.mk op n unit name args)) (rV f (.mk op n unit name args)) w e w'→P e w' from fun e w' h=>hP▸h);clear hP C hA hS hJ ih hn;have Zh:∀ r,Rd r→r<w.heap.size:=HC.o.lt HJ.o;have G0:=aa Zh;obtain⟨px,hpx⟩:∃ p,p=w.heap.size:=⟨_,rfl⟩;have Vo:=aa (show J l ((w.alloc (.cells #[bR op,bR n,bV unit,bV name,bQ A args c] 54)).alloc (.cells #[bR 0,bR 0,bV ⟨#[]⟩,bV ⟨#[]⟩,cG] 54))from
  HC.o.keep HJ.o aq fun r hr=>(((Below.refl w w).alloc (Nat.le_refl _) _).alloc aj _).block r (Zh r hr))
 clear Zh HJ;go_enter func33,ntmps33;go_wp2_with fail;refine(HC.o.call op name l _ HN.o Vo.o).mono ?_;rintro e w1 ⟨rfl,hJ1,hg1⟩;(have hB2:∀ b,w.heap.size≤b→some b≠row:=fun b hb e=>by have:=G0.o b (HC.o.rd b e.symm);omega);have k1:cH w1 w 54 [bR op,bR n,bV unit,bV name,bQ A args c]:=jl hg1 (hB2 _ (Nat.le_refl _)) ((heap_alloc_old _ _ aj).trans (heap_alloc_new w _));have k2:cH w1 (w+1) 54 [bR 0,bR 0,bV ⟨#[]⟩,bV ⟨#[]⟩,cG]:=jl hg1 (hB2 _ af) (by have h9:=heap_alloc_new (w.alloc (.cells #[bR op,bR n,bV unit,bV name,bQ A args c] 54)) (.cells #[bR 0,bR 0,bV ⟨#[]⟩,bV ⟨#[]⟩,cG] 54);rw[show(w.alloc (.cells #[bR op,bR n,bV unit,bV name,bQ A args c] 54)).heap.size=w.heap.size+1 by simp]at h9;exact h9);have hg0:w.grownBy w1 row:=gK (oc (oc (lp w row) _) _) hg1;(have hz1:w.heap.size+2≤w1:=by have:=hg1.size;simp at this;omega);have AY:=aa (show tJ row J w w [bR op,bR n,bV unit,bV (f op name),bQ A args c] cG ((args.take 0).map (rV f)) (l++lg op name++(args.take 0).flatMap (tF lg)) (w1.setCell (bS w 3) (bV (f op name)))from
  ⟨by simpa using k1.cM 3 (bV (f op name)),(Below.heap_setCell w1 (bS w 3) _ (w+1) (by show w.heap.size+1≠w.heap.size;omega)).trans k2,cV.pW,HC.o.keep (by simpa using hJ1) bM (fun r hr=>Below.heap_setCell w1 (bS w 3) _ r (by have:=G0.o r hr;show r≠w.heap.size;omega)),nw hg0 (Nat.le_refl _) _,by simpa [World.setCell]using hz1⟩)
 have c0:bW w1 w 3 (bV name):=k1.cell 3;have f0:w1.frozen? (bS w 3)=false:=k1.frozen 3;have x0:(w1.setCell (bS w 3) (bV (f op name))).cell? (bS w 4)=some (bQ A args c):=AY.o.b1.cell 4;clear k1 k2 hg0 hz1 hJ1 hg1 hB2 Vo;go_upto_region 2 with fail;generalize (w1.setCell (bS w 3) (bV (f op name)))=w2 at AY x0 ⊢;clear c0 f0;have hpx0:px=w.heap.size:=hpx;have YH:=aa hpx0;rw[← hpx]at AY G0 x0 ⊢;clear hpx hpx0;go_wp2_with fail;clear x0;go_loopw [5,18] (fun v s8 wr=>∃ k:Nat,k≤args.length∧s8= .int .i64 (k:Int)∧Hid (tJ row J w px [.int .i64 op,.int .i64 n,bV unit,bV (f op name),bQ A args c] v ((args.take k).map (rV f)) (l++lg op name++(args.take k).flatMap (tF lg)) wr)) (fun _ s8 _=>args.length - (intOf s8).toNat);(case atStart=>exact⟨0,Nat.zero_le _,rfl,AY⟩);clear AY;obtain⟨k,hk,rfl,HW⟩:=hrel;by_cases hlt:k<args.length;(case pos=>have hwk:=HW.o.turn;have hsz:=HW.o.size;obtain⟨bi,oi,cs,fI,hSb,CC,ep,dn⟩:=HA.o.get hlt;subst fI;have hkeep:∀ i v,cs[i]? =some v→bW wr bi (oi+k*5+i) v:=fun i v h=>(vC hwk _ CC (HS.o _ hSb)).trans (dn i v h);have ew:=aa (kr (rV f) hlt);have uU:=aa (rW (tF lg) hlt);have hx:=List.getElem_mem hlt;generalize hy:args[k]=y at ep ew uU hx;clear hy;obtain⟨J_,n2,u2,m2,A2,c2,Ka,Bp,hcs,_⟩:=cR.parts ep;subst hcs;have b0:bW wr bi (oi+k*5) (.int .i64 J_):=hkeep 0 _ rfl;have b1:bW wr bi (oi+k*5+1) (.int .i64 n2):=hkeep 1 _ rfl;have b2:bW wr bi (oi+k*5+2) (bV u2):=hkeep 2 _ rfl;have b3:bW wr bi (oi+k*5+3) (bV m2):=hkeep 3 _ rfl;have b4:bW wr bi (oi+k*5+4) (bQ A2 Ka c2):=hkeep 4 _ rfl;have HE:=aa (fun(o:Obj)=>ep.keep (cA.cW (oc hwk o) (fun b q=>HS.o b q)));have HX:=aa hx;have HJ2:=aa (fun(o:Obj)=>HC.o.keep HW.o.j (by simp:wr.heap.size≤(wr.alloc o).heap.size) fun r hr=>heap_alloc_old wr o (by have:=G0.o r hr;omega));clear dn hkeep ep hx hwk Bp;obtain⟨ls,hls⟩:∃ ls,ls=l++lg op name++(args.take k).flatMap (tF lg):=⟨_,rfl⟩;obtain⟨ys,hys⟩:∃ ys,ys=(args.take k).map (rV f):=⟨_,rfl⟩;have RO:ys.length=k:=(by rw[hys,List.length_map,List.length_take];omega);have HYL:=aa RO;rw[← hls, ← hys]at HW;rw[← hls]at HJ2;have HTL2:=aa (show l++lg op name++(args.take (k+1)).flatMap (tF lg)=ls++tF lg y by rw[uU.o,hls];simp only[List.append_assoc]);obtain⟨zs,hzs⟩:∃ zs,zs=(args.take (k+1)).map (rV f):=⟨_,rfl⟩;have HZS:=aa hzs;rw[← hys, ← hzs]at ew;clear hls hys RO uU hzs;go_wp2_with fail;refine(HIH.o y HX.o _ _ _ ls (HE.o _) (fun b q=>HS.o b q) (HJ2.o _)).mono ?_;rintro e w3 ⟨cs3,rfl,he3,hj3,hg3⟩;obtain⟨op3,n3,u3,m3,A3,c3,ar3,Bp,hcs,_⟩:=cR.parts he3;subst hcs;have HE3:=aa he3;have HJ3:=aa hj3;have HG3:=aa hg3;(have hz3:px+2≤w3.heap.size:=by have:=hg3.size;simp at this;omega);clear he3 hj3 hg3 Bp HE HX HJ2;go_wp2_with (at_builtin;refine cC (R:=ja) (S:=fun b=>px+2≤b) (xs:=ys) (ys:=[rV f y]) (T:=54) (t:=52) (B:=px+2) rfl (.tmp 22) (.tmp 26) 52 rfl rfl ZC (HW.o.ready YH.o (fun r q=>G0.o r (HC.o.rd r q)) HG3.o) rfl _ 1 1 rfl rfl ?hN ?hl ?hB ew.o.symm (n:=k+1) ?hn ?_);(case hN=>refine(rH.iV (R:=ja) (cs:=[_,_,_,_,_]) HE3.o _ aj).mono fun b hb h=>?_;have h9:wr.heap.size+1≤b:=aO;have h8:=hsz;exact⟨by omega,fun e=>by have:=(HW.o.own.lt b e.symm).2;omega⟩);(case hl=>rw[HYL.o];omega);(case hB=>simp;omega);(case hn=>rw[HYL.o]);intro A9 c9 w9 jw HG;have wZ:=aa (HW.o.more HC.o YH.o G0.o HG3.o HJ3.o (ew.o▸HG.o));rw[← ew.o,HZS.o, ← HTL2.o]at wZ;clear HG HW HE3 HJ3 HG3;go_wp2_with fail;go_roundw;(case rel=>exact⟨k+1,by omega,rfl,wZ⟩);(case measure=>simp[intOf];omega));(obtain rfl:k=args.length:=by omega);have kM:=HW;rw[List.take_length, ← Cv, ← Fv]at kM;clear HW;obtain⟨A9,c9,RX,jw⟩:=kM.o.own.slice;have hml:(GS f args).length=args.length:=(by rw[Cv,List.length_map]);rw[hml]at RX jw;subst RX;have HC9:=aa jw;have q0:bW wr px 0 (.int .i64 op):=kM.o.b1.cell 0;have q1:bW wr px 1 (.int .i64 n):=kM.o.b1.cell 1;have q2:bW wr px 2 (bV unit):=kM.o.b1.cell 2;have q3:bW wr px 3 (bV (f op name)):=kM.o.b1.cell 3;have q4:bW wr px 4 (bQ A args c):=kM.o.b1.cell 4;have q5:wr.frozen? (bS px 4)=false:=kM.o.b1.frozen 4;have r0:bW wr (px+1) 0 (.int .i64 0):=kM.o.b2.cell 0;have r1:bW wr (px+1) 1 (.int .i64 0):=kM.o.b2.cell 1;have r2:bW wr (px+1) 2 (bV ⟨#[]⟩):=kM.o.b2.cell 2;have r3:bW wr (px+1) 3 (bV ⟨#[]⟩):=kM.o.b2.cell 3;have r4:bW wr (px+1) 4 (bQ none 0 0):=kM.o.b2.cell 4;have s0:wr.frozen? (bS (px+1) 0)=false:=kM.o.b2.frozen 0;have s1:wr.frozen? (bS (px+1) 1)=false:=kM.o.b2.frozen 1;have s2:wr.frozen? (bS (px+1) 2)=false:=kM.o.b2.frozen 2;have s3:wr.frozen? (bS (px+1) 3)=false:=kM.o.b2.frozen 3;have s4:wr.frozen? (bS (px+1) 4)=false:=kM.o.b2.frozen 4;clear jw;obtain⟨d1,d2,d3⟩:=kM.o.fin HC.o YH.o G0.o (bQ A9 args c9) (.int .i64 op) (.int .i64 n) (bV unit) (bV (f op name)) (bQ A9 args c9);have HD:=aa (show uq row J (l++tF lg (.mk op n unit name args)) (rV f (.mk op n unit name args)) w (.returned (.agg #[.int .i64 op,.int .i64 n,bV unit,bV (f op name),bQ A9 args c9])) _ from
  ⟨[bR op,bR n,bV unit,bV (f op name),bQ A9 args c9],rfl,by have h9:=cR.of (op:=op) (n:=n) (unit:=unit) (name:=f op name) (c:=c9) d1;rw[hml]at h9;unfold rV;exact h9,by unfold tF;rw[← List.append_assoc];exact d2,d3⟩)
 have kF:=kM.o.ZT (bQ A9 args c9) (bR op) (bR n) (bV unit) (bV (f op name)) (bQ A9 args c9);have z0:=kF.cell 0;have z1:=kF.cell 1;have z2:=kF.cell 2;have z3:=kF.cell 3;have z4:=kF.cell 4;clear d1 d2 d3 hml kM kF;generalize p_:(((((wr.setCell (bS px 4) (bQ A9 args c9)).setCell (bS (px+1) 0) (bR op)).setCell (bS (px+1) 1) (bR n)).setCell (bS (px+1) 2) (bV unit)).setCell (bS (px+1) 3) (bV (f op name))).setCell (bS (px+1) 4) (bQ A9 args c9)=wF at z0 z1 z2 z3 z4 HD;have qV:=aa p_;clear p_;go_wp2_with fail;rw[qV.o];exact bodyPost_ret (v:= .agg #[bR op,bR n,bV unit,bV (f op name),bQ A9 args c9]) (by simp[results,results33,go_sem,z0,z1,z2,z3,z4]) rfl (HP.o _ _ HD.o)
theorem yH {x y:cD} {op n:Int} {unit name:ByteArray} {args:List cD} (hx:x= .mk op n unit name args) (hy:y∈args):fM y<fM x:=by
 subst hx;have h:∀ (l:List cD),y∈l→fM y≤gJ l:=by
  intro l;induction l with
  |nil=>intro h;cases h
  |cons a l ih=>
   intro h;unfold gJ;rcases List.mem_cons.1 h with rfl|h
   (·omega);have:=ih h;omega
 have:=h args hy;show fM y<1+gJ args;omega
theorem su {N g:Nat} {lb:Array Value} {Rd:Nat→Prop} {row:Option Nat} {J:List ByteArray→World→Prop} {f:Int→ByteArray→ByteArray} {lg:Int→ByteArray→List ByteArray} (C:Clo N g lb Rd row J f lg):
 ∀ (d:Nat) (x:cD),fM x≤d→ZE N x→cU x≤1000000→∀ (cs:List Value) (S:Nat→Prop) (w:World) (l:List ByteArray),cR w S cs x→(∀ b,S b→some b≠row)→J l w→Calls prog 33 #[.agg cs.toArray,.func (.func g) #[] lb] w (uq row J (l++tF lg x) (rV f x) w)
 |d,x,hd,hz,hn,cs,S,w,l,he,hS,hJ=>by
  obtain⟨op,n,unit,name,A,c,args,hx,hcs,w_⟩:=he.parts;subst hcs;rw[hx]at hz hn hd ⊢;unfold ZE at hz;have hk:∀ y∈args,cU y≤1000000:=fun y hy=>by
   have:=lI args y hy;unfold cU at hn;omega
  have hlen:args.length≤1000000000:=by
   have:=kZ args;unfold cU at hn;omega
  refine J9 C op n unit name A c args S w l hz.1 hlen w_ hS hJ fun y hy cs S W l he hS hJ=>?_;have h1:=yH rfl hy (op:=op) (n:=n) (unit:=unit) (name:=name);cases d with
  |zero=>omega
  |succ d=>exact su C d y af (RL.mem hz.2 y hy) (hk y hy) cs S W l he hS hJ
end
end Go.Proofs.YtkfofnjfihfgkaaGreatDoor
