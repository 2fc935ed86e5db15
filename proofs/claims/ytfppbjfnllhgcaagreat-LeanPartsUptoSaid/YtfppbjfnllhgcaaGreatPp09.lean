/- Parts of the proof, packed (OrdN to R23); each theorem bears its own conditions. -/
import Derived.NoCompiler
import Derived.DeepKeys4
import Derived.Test.YtfppbjfnllhgcaaGreatPp08
set_option linter.unusedVariables false
set_option linter.unusedSimpArgs false
set_option maxRecDepth 100000
set_option maxHeartbeats 8000000
open Go.Proofs.Tryz
open Go.Lib renaming hid → aa
open Nat renaming le_refl→aaB,le_trans→aaC,zero_le→aaG
open Go.World renaming size_alloc→aaI
open List renaming getElem_mem→aan,length_append→aao,getD_eq_getElem?_getD→aam,mem_singleton→aau,length_map→aap,getD_cons_zero→aal,getD_cons_succ→aak,take_succ_eq_append_getElem→aaz,replicate→aaw,range→aav
open Go.RowKit.Below renaming refl→aaf,heap_setCell→aae
open Array renaming replicate→aad
theorem aZ {p:Prop} (h:p:=by have:=dP ar y hy;omega):p:=h
theorem aW {p:Prop} (h:p:=by have:=uu.o;omega):p:=h
namespace Go.Proofs.YtfppbjfnllhgcaaGreat
section
open Go Go.RowKit Bg Go.Proofs Sh Kb
def OI (idx:ByteArray→Option Nat) (nm:ByteArray):Option Value:=(idx nm).map fun i=> bU (i:Int)
def yP (S:Int→Bool) (k:Int):Option Value:=if S k then some (.bool true)else none
def lU (idx:ByteArray→Option Nat) (k:Int) (y:cw):Bool:=y.op==1&&match idx y.name with|some i=>decide ((i:Int)=k)|none=>false
def yQ (idx:ByteArray→Option Nat) (x:cw) (k:Int):Bool:=dK (lU idx k) x
theorem Xo {idx:ByteArray→Option Nat} {op n:Int} {u nm:ByteArray} {l:List cw} {k:Int}:yQ idx (.mk op n u nm l) k=(lU idx k (.mk op n u nm l)||l.any fun y=>yQ idx y k):=by
 unfold yQ;rw[lQ]
def GW (gs m:Nat) (S:Int→Bool) (idx:ByteArray→Option Nat) (x:cw) (w:World) (e:Ending) (w':World):Prop:=
 e= .returned (.tuple #[])∧∃ m',m'≤m+cE x∧jb w' gs m' (yP fun k=>S k||yQ idx x k)∧cB (fun b=>b≠gs) w w'∧Below gs w w'
theorem tu (w:World):(zeroValue 3).run prog w= .ok (bU 0) w:=by kernel_rfl
theorem fP.keep {w w':World} {g n:Nat} {f:ByteArray→Option Value} (h:fP w g n f) (hb:w'.heap[g]? =w.heap[g]?):fP w' g n f:=by
 obtain⟨D,⟨es,clock,hbk,F,hs,hD⟩,h2,h3⟩:=h;exact⟨D,⟨es,clock,hb.trans hbk,F,hs,hD⟩,h2,h3⟩
theorem T_ {S:Int→Bool} {i:Int}:(fun k'=>if k'=i then some (Value.bool true)else yP S k')=yP fun k=>S k||decide (i=k):=by
 funext k;show(if k=i then some (Value.bool true)else if S k=true then some (Value.bool true)else none)=if(S k||decide (i=k))=true then some (Value.bool true)else none;by_cases h:k=i
 (·subst h;simp);rw[if_neg h,decide_eq_false (fun e:i=k=>h e.symm),Bool.or_false]
theorem Qd (gi ni gs:Nat) (idx:ByteArray→Option Nat) (Xm:∀ nm i,idx nm=some i→i<1000000) (hne:gi≠gs) (N:Nat) (hN:N≤1000000):∀ (x:cw),cE x≤N→lZ x→∀ (m:Nat) (S:Int→Bool) (w:World) (cs:List Value),m+cE x≤2000000→fP w gi ni (OI idx)→jb w gs m (yP S)→cH w (fun b=>b≠gs) cs x→Calls prog 93 #[.agg cs.toArray,.map (some gi),.map (some gs)] w (GW gs m S idx x w):=by
 induction N with
 |zero=>intro x hx;have:=dB x;omega
 |succ N ih=>
  intro x hx hsm m S w cs hm hMI hMS hI
  replace ih:=ih af
  generalize hP:GW gs m S idx x w=P
  have HP:=aa (show ∀ e w',GW gs m S idx x w e w'→P e w' from fun e w' h=>hP▸h)
  clear hP
  obtain⟨op,n,un,nm,A2,c2,ar,e1,e2,hS⟩:=cH.parts hI
  subst e1 e2
  have vE:cE (.mk op n un nm ar)=1+cT ar:=by unfold cE;rfl
  have hnl:=fN ar
  have har:ar.length≤1000000:=by omega
  have um:=aa (fun y (hy:y∈ar)=>ih y aZ)
  have HA:=aa hS
  have oG:=aa (show cN (w.alloc (.cells #[bU op,bU n,bV un,bV nm,bW A2 ar c2] 47)) w 47 [bU op,bU n,bV un,bV nm,bW A2 ar c2]from heap_alloc_new w _)
  have j3:=aa (hMI.alloc (.cells #[bU op,bU n,bV un,bV nm,bW A2 ar c2] 47))
  have YF:=aa (hMS.alloc (.cells #[bU op,bU n,bV un,bV nm,bW A2 ar c2] 47))
  have gT:=aa ((aaf w w).alloc aac (.cells #[bU op,bU n,bV un,bV nm,bW A2 ar c2] 47))
  have hgs:=hMS.lt
  have hgi:=hMI.lt
  clear hI hS hMI hMS ih
  go_enter func93,ntmps93
  go_upto_region 1 with fail
  generalize (w.alloc (.cells #[bU op,bU n,bV un,bV nm,bW A2 ar c2] 47))=w1 at oG j3 YF gT ⊢
  have hp1:=oG.o.lt
  have x1:=oG.o.cell
  have Bh:nm.size≤maxLen:=by unfold lZ at hsm;exact hsm.2.1
  have vK:=aa (show ∀ y∈ar,lZ y from by unfold lZ at hsm;exact hsm.2.2.mem)
  have Li:=aa (show cB (fun b=>b≠gs) w w1 from cB.cA gT.o)
  have qL:=aa (show Below gs w w1 from gT.o.mono (Nat.le_of_lt hgs))
  have HSub:=aa (show ∀ (S3:Int→Bool) (b:Bool),(∀ k,lU idx k (.mk op n un nm ar)=false)→∀ k,S3 k=(S3 k||lU idx k (.mk op n un nm ar))from fun S3 b h k=>by rw[h k,Bool.or_false])
  clear hsm gT
  have three:idx nm=none∨(∃ i,idx nm=some i∧¬op=1)∨∃ i,idx nm=some i∧op=1:=by
   cases h:idx nm with
   |none=>exact .inl rfl
   |some i=>exact .inr ((Decidable.em (op=1)).elim (fun h1=> .inr ⟨i,rfl,h1⟩) fun h1=> .inl ⟨i,rfl,h1⟩)
  rcases three with Ei|⟨i,Ei,hno⟩|⟨i,Ei,ho⟩
  case' inl=>
   obtain⟨S3,m3,YG,CP,Fl⟩:∃ (S3:Int→Bool) (m3:Nat),m3≤m+1∧Hid (∀ k,S3 k=(S k||lU idx k (.mk op n un nm ar)))∧Hid (jb w1 gs m3 (yP S3)):=⟨S,m,by omega,aa fun k=>by
    have:lU idx k (.mk op n un nm ar)=false:=by
     unfold lU;rw[op1];split
     (·show(match idx nm with|some i=>decide ((i:Int)=k)|none=>false)=false;rw[Ei]);rfl
    rw[this,Bool.or_false],YF⟩
   clear YF
   go_upto_region 4 with(at_lookup;refine jl _ rfl _ _ _ rfl 3 underlying96 (tu _) gi ni (OI idx) rfl j3.o nm rfl Bh (by unfold OI;rw[Ei];rfl) ?_)
   generalize w1=w3 at*
  case' inr.inl=>
   obtain⟨S3,m3,YG,CP,Fl⟩:∃ (S3:Int→Bool) (m3:Nat),m3≤m+1∧Hid (∀ k,S3 k=(S k||lU idx k (.mk op n un nm ar)))∧Hid (jb w1 gs m3 (yP S3)):=⟨S,m,by omega,aa fun k=>by
    have:lU idx k (.mk op n un nm ar)=false:=by
     unfold lU;rw[op1,if_neg hno]
    rw[this,Bool.or_false],YF⟩
   clear YF
   have h1:(op==1)=false:=by simpa using hno
   go_upto_region 4 with(at_lookup;refine iE _ rfl _ _ _ rfl 3 underlying96 (tu _) gi ni (OI idx) rfl j3.o nm rfl Bh (bU (i:Int)) (by unfold OI;rw[Ei];rfl) ?_)
   clear h1 hno
   generalize w1=w3 at*
  case' inr.inr=>
   have h1:(op==1)=true:=by simpa using ho
   have hi:=Xm nm i Ei
   have CP:=aa (show ∀ k,(S k||decide ((i:Int)=k))=(S k||lU idx k (.mk op n un nm ar))from fun k=>by
    unfold lU;rw[op1,if_pos ho];show _=(S k||match idx nm with|some i=>decide ((i:Int)=k)|none=>false);rw[Ei])
   clear ho
   have hwf:(Lit.int .i64 (i:Int)).wf=true:=by
    have h1:IntKind.min .i64=-9223372036854775808:=ak;have h2:IntKind.max .i64=9223372036854775807:=ak;simp[Lit.wf,h1,h2];omega
   go_upto_region 4 with(first|(at_lookup;refine iE _ rfl _ _ _ rfl 3 underlying96 (tu _) gi ni (OI idx) rfl j3.o nm rfl Bh (bU (i:Int)) (by unfold OI;rw[Ei];rfl) ?_)|(at_mapUpdate;refine qG _ rfl _ _ _ _ rfl 4 underlying182 gs m (yP S) rfl YF.o aH (i:Int) (.bool true) rfl rfl hwf ?_;intro w3 YG hg3))
   rw[T_]at YG
   obtain⟨S3,hS3⟩:∃ S3:Int→Bool,S3=fun k=>S k||decide ((i:Int)=k):=⟨_,rfl⟩
   rw[← hS3]at YG
   replace CP:=aa (show ∀ k,S3 k=(S k||lU idx k (.mk op n un nm ar))from fun k=>by rw[hS3];exact CP.o k)
   replace Fl:=aa YG
   have kg:∀ b,b≠gs→b<w1.heap.size→w3.heap[b]? =w1.heap[b]? :=fun b hb hl=>hg3.block b hl (fun e=>hb bz)
   have hpg:w.heap.size≠gs:=by omega
   replace j3:=aa (j3.o.keep (kg gi hne j3.o.lt))
   replace oG:Hid (cN w3 w 47 [bU op,bU n,bV un,bV nm,bW A2 ar c2]):=aa ((kg _ hpg hp1).trans oG.o)
   replace Li:=aa (Li.o.trans (⟨hg3.size,fun b hb q=>kg b q hb⟩:cB (fun b=>b≠gs) w1 w3))
   replace qL:=aa (qL.o.trans (⟨hg3.os,hg3.tape,hg3.output,hg3.size,fun b hb=>kg b af (by have:=YF.o.lt;omega)⟩:Below gs w1 w3))
   have YG:m+1≤m+1:=aaB _
   replace hp1:=oG.o.lt
   replace x1:=oG.o.cell
   clear hg3 kg hpg YF hS3 h1 hwf hi w1
   generalize hmm:m+1=m3 at YG Fl
   replace YG:m3≤m+1:=by omega
   clear hmm
  all_goals (
   have PB:=aa (show ∀ (mk:Nat) (wr:World),mk≤m3+cT ar→jb wr gs mk (yP fun j=>S3 j||ar.any fun y=>yQ idx y j)→cB (fun b=>b≠gs) w wr→Below gs w wr→P (.returned (.tuple #[])) wr from fun mk wr h1 h2 h3 h4=>HP.o _ _ ⟨rfl,mk,by omega,by
    have e:(fun k=>S k||yQ idx (.mk op n un nm ar) k)=fun j=>S3 j||ar.any fun y=>yQ idx y j:=by
     funext k;rw[Xo,CP.o k,Bool.or_assoc]
    rw[e];exact h2,h3,h4⟩)
   clear HP CP
   go_wp2_with fail
   go_loopw [28] (fun v wr=>∃ (k mk:Nat),k≤ar.length∧v=bU (k:Int)∧Hid (mk≤m3+cT (ar.take k))∧Hid (fP wr gi ni (OI idx))∧Hid (jb wr gs mk (yP fun j=>S3 j||(ar.take k).any fun y=>yQ idx y j))∧Hid (cB (fun b=>b≠gs) w wr)∧Hid (Below gs w wr)) (fun v _=>ar.length - (intOf v).toNat)
   case atStart=>exact⟨0,m3,aaG _,rfl,aa af,j3,aa (by simpa using Fl.o),Li,qL⟩
   case round=>
    clear Fl j3 Li qL x1 oG;obtain⟨k,mk,hk,rfl,HMk,j3,Fl,Li,qL⟩:=hrel;by_cases hlt:k<ar.length;case pos=>
     obtain⟨bl,o,cs,hA,yK,hbl,ey,cM⟩:=(HA.o.keep Li.o).get hlt;subst hA;have hmem:=aan hlt;have OH:ar.take (k+1)=ar.take k++[ar[k]]:=aaz hlt;have hnl1:cT (ar.take (k+1))≤cT ar:=by
      (conv=>rhs;rw[← List.take_append_drop (k+1) ar]);rw[rA];omega
     have hnl2:cT (ar.take (k+1))=cT (ar.take k)+cE ar[k]:=(by rw[OH,rA];simp only[cT];omega);have AH:=um.o _ hmem (vK.o _ hmem) mk;have hmk:=HMk.o;obtain⟨eR,yn,eT,eU,A3,c3,yr,oh,hes,_⟩:=cH.parts ey;generalize ar[k]=y at ey OH AH hnl2 oh;subst hes;have g0:b_ wr bl (o+k*5) (bU eR):=cM 0 _ rfl;have g1:b_ wr bl (o+k*5+1) (bU yn):=cM 1 _ rfl;have g2:b_ wr bl (o+k*5+2) (bV eT):=cM 2 _ rfl;have g3:b_ wr bl (o+k*5+3) (bV eU):=cM 3 _ rfl;have g4:b_ wr bl (o+k*5+4) (bW A3 yr c3):=cM 4 _ rfl;have HY:=aa (show cN (wr.alloc (.cells #[bU eR,bU yn,bV eT,bV eU,bW A3 yr c3] 47)) wr 47 [bU eR,bU yn,bV eT,bV eU,bW A3 yr c3]from heap_alloc_new wr _);have fO:Below wr wr (wr.alloc (.cells #[bU eR,bU yn,bV eT,bV eU,bW A3 yr c3] 47)):=cS _;have hgr:=Fl.o.lt;have HC:=aa (AH _ _ _ af (j3.o.bZ fO j3.o.lt) (Fl.o.bZ fO hgr) (di.keep ey (cB.cA fO)));have cG:=aa fO;clear cM ey oh fO AH;go_upto_region 7 with fail;generalize (wr.alloc (.cells #[bU eR,bU yn,bV eT,bV eU,bW A3 yr c3] 47))=wd at HY HC cG ⊢;clear g0 g1 g2 g3 g4;have z1:=HY.o.cell;have HMId:=aa (j3.o.bZ cG.o j3.o.lt);go_wp2_with fail;refine HC.o.mono ?_;rintro e w5 ⟨rfl,m5,h5,hm5,hk5,ew⟩;have e5:(fun j=>(S3 j||(ar.take k).any fun y=>yQ idx y j)||yQ idx y j)=fun j=>S3 j||(ar.take (k+1)).any fun y=>yQ idx y j:=by
      funext j;rw[OH,List.any_append,Bool.or_assoc];simp
     rw[e5]at hm5;have J2:=aa hm5;have HMI5:=aa (HMId.o.keep (hk5.2 gi HMId.o.lt hne));have HKp5:=aa ((Li.o.trans (cB.cA cG.o)).trans hk5);have HBl5:=aa ((qL.o.trans (cG.o.mono (Nat.le_of_lt hgr))).trans ew);have HMk5:=aa (show m5≤m3+cT (ar.take (k+1)) by omega);clear hm5 hk5 ew z1 e5 HMId HC HY hgr;go_wp2;go_roundw;exact⟨k+1,m5,by omega,rfl,HMk5,HMI5,J2,HKp5,HBl5⟩;simp[intOf];omega
    (obtain rfl:k=ar.length:=by omega);rw[List.take_length]at HMk Fl;have HE:=aa (PB.o mk wr HMk.o Fl.o Li.o qL.o);clear HMk Fl Li qL PB;go_wp2_with fail;exact⟨rfl,.tuple #[],results_none rfl _ _ _,HE.o⟩)
end
section
open Go Go.RowKit Bg Go.Proofs Sh Kb Go.Maps
section
def jV:Rel Nat:=mg 1 (fun n=>[bU (n:Int)]) (fun _=>rfl) (fun x v hv=>by simp at hv;subst hv;rfl)
def Fm:Rel (List Nat) where
 k:=1
 is:=fun w S cs x=>∃ A c,cs=[bW A x c]∧Sq jV w S A x
 len:=fun⟨A,c,h,_⟩=>by rw[h];rfl
 one:=fun⟨A,c,h,_⟩ v hv=>by rw[h]at hv;simp at hv;subst hv;rfl
 keep:=fun⟨A,c,h,k⟩ hk=>⟨A,c,h,k.keep hk⟩
 mono:=fun⟨A,c,h,k⟩ hs=>⟨A,c,h,k.mono hs⟩
theorem Ua:PJ prog 38 3 1:= .of (bU 0) 8 underlying38 ah rfl ak ak
theorem J3:(Tryz.prog.info? 38).map (fun i=>(i.zero,i.size,i.bytes))=some (some (bW none 0 0),1,24):=by kernel_rfl
theorem jb.Ub {w:World} {g n:Nat} {S:Int→Bool} (h:jb w g n (yP S)) (k:Int) (hk:(Lit.int .i64 k).wf=true):(Instr.lookup 182 (.map (some g)) (bU k) false).run prog w= .ok (.bool (S k)) w:=by
 obtain⟨D,h1,h2,h3⟩:=h;obtain⟨p1,p2,p3⟩:=h3 k;obtain⟨v,ps,hr,hv⟩:=h1.lookup Bw underlying182 (EB w) (R:=kX) (zd:= .held (.bool false)) (zp:=[]) rfl (keyOf_int_mk underlying3 hk);rw[hr];simp only[kX,Option.some.injEq,Prod.mk.injEq]at hv;obtain⟨hv,_⟩:=hv;cases hc:S k with
 |true=>exact DataW.held.inj (hv.trans (p2 _ _ (by unfold yP;rw[if_pos hc])))▸rfl
 |false=>exact DataW.held.inj (hv.trans (p3 _ (by unfold yP;rw[if_neg (by rw[hc];simp)])))▸rfl
def kI (B go M:Nat) (w:World) (vs:List Value) (g:List (List Nat)):Prop:=∀ j,j<vs.length→∃ A c,vs[j]? =some (bW A (g.getD j []).length c)∧Sq jV w (fun b=>B≤b∧b≠go∧b<M) A (g.getD j [])
section
variable {B go M M':Nat} {w w':World} {vs:List Value} {g:List (List Nat)} {v:Value}
theorem kI.ql:kI B go M w [] g:=fun j hj=>absurd hj ai
theorem kI.keep (h:kI B go M w vs g) (hk:cB (fun b=>b<M∧b≠go) w w'):kI B go M w' vs g:=fun j hj=>by
 obtain⟨A,c,h1,h2⟩:=h j hj;exact⟨A,c,h1,h2.keep ⟨hk.1,fun b hb q=>hk.2 b hb ⟨q.2.2,q.2.1⟩⟩⟩
theorem kI.mono (h:kI B go M w vs g) (hm:M≤M'):kI B go M' w vs g:=fun j hj=>by
 obtain⟨A,c,h1,h2⟩:=h j hj;exact⟨A,c,h1,h2.mono fun b _ q=>⟨q.1,q.2.1,by omega⟩⟩
theorem kI.more {K:Nat} {r:List Nat} {S:Nat→Prop} (h:kI B go M w vs g) (hO:dO jV 3 K w S v r) (hS:∀ b,¬S b) (hg:g.getD vs.length []=r) (hK:B≤K∧go<K∧M≤K):kI B go w w (vs++[v]) g:=fun j hj=>by
 by_cases e:j<vs.length
 (·obtain⟨A,c,h1,h2⟩:=h j e;exact⟨A,c,by rw[List.getElem?_append_left e];exact h1,h2.mono fun b hb q=>⟨q.1,q.2.1,hb⟩⟩);have ej:j=vs.length:=(by simp at hj;omega);subst ej;obtain⟨A,c,hv,_⟩:=hO.slice;subst hv;refine⟨A,c,by rw[hg];simp,?_⟩;rw[hg];exact((hO.mono (S':=fun b=>K≤b) fun b _ q=>absurd q (hS b)).sq fun b _ q=>q).mono fun b hb q=>⟨by omega,by omega,hb⟩
end
theorem kI.sq {B go:Nat} {w:World} {vs:List Value} {g:List (List Nat)} (h:kI B go w w vs g) (hb:cN w go 38 vs) (hl:vs.length=g.length) (hB:B≤go):Sq Fm w (fun b=>B≤b) (bY go 0) g:=by
 refine⟨vs.map fun v=>[v],by simpa using hl,fun hn=>⟨go,0,rfl,hB,hb.lt,fun j cs hj i v hv=>?_⟩,fun j cs x hc hx=>?_⟩
 ·rw[List.getElem?_map]at hj;cases YH:vs[j]? with
  |none=>rw[YH]at hj;cases hj
  |some u=>
   rw[YH]at hj;injection hj with hj;subst hj;(have hi:i=0:=by have:=(List.getElem?_eq_some_iff.1 hv).1;simpa using this);subst hi;have e:u=v:=(by simpa using hv);subst e;show b_ w go (0+j*1+0) u;rw[show 0+j*1+0=j by omega,hb.cell,YH]
 rw[List.getElem?_map]at hc;cases YH:vs[j]? with
 |none=>rw[YH]at hc;cases hc
 |some u=>
  rw[YH]at hc;injection hc with hc;subst hc;obtain⟨A,c,h1,h2⟩:=h j (List.getElem?_eq_some_iff.1 YH).1;rw[YH]at h1;injection h1 with h1;have hg:g.getD j []=x:=(by rw[aam,hx];rfl);rw[hg]at h1 h2;subst h1;exact⟨A,c,rfl,h2.mono fun b _ q=>q.1⟩
def GX (r:Option (List (List Nat))) (w:World) (e:Ending) (w':World):Prop:=(r=none∧e= .returned (.tuple #[cD,.bool false])∨∃ g A c,r=some g∧e= .returned (.tuple #[bW A g c,.bool true])∧Sq Fm w' (fun b=>w.heap.size≤b) A g)∧Below w w w'
theorem Xp {s:cK} (hr:fV s=true) (x:cw):(aav s.cells.length).filter (fun k:Nat=>false||yQ (kM s.cells s.cells.length) x (k:Int))=Da s.cells x:=by
 unfold Da;refine List.filter_congr fun k hk=>?_;have hk:=List.mem_range.1 hk;rw[List.getElem?_eq_getElem hk,Bool.false_or];show dK _ x=dK _ x;congr 1;funext y;unfold lU isName;congr 1;cases hi:kM s.cells s.cells.length y.name with
 |none=>
  show false=(y.name==s.cells[k].name);symm;refine beq_eq_false_iff_ne.2 fun e=>?_;rw[e,rB (Ak hr) hk _ hk]at hi;cases hi
 |some i=>
  show decide ((i:Int)=(k:Int))=(y.name==s.cells[k].name);obtain⟨h1,c,hc,he⟩:=wX _ hi;rw[Bool.eq_iff_iff,decide_eq_true_eq,beq_iff_eq];constructor
  (·intro e;(have:i=k:=by omega);subst this;rw[List.getElem?_eq_getElem hk]at hc;injection hc with hc;rw[← he, ← hc]);intro e;rw[e,rB (Ak hr) hk _ hk]at hi;injection hi with hi;omega
theorem Fo (a:j6) (s:cK) (w:World) (hI:eo w Any a s) (hZ:gj s):Calls prog 44 #[.agg (dU a s).toArray] w (GX (jU s) w):=by
 have vr:=aa (show jU s=(Bc s).map fun l=>l.map (Da s.cells)from rfl);generalize jU s=res at vr;generalize hP:GX res w=P;have HP:=aa (show ∀ e w',GX res w e w'→P e w' from fun e w' h=>hP▸h);clear hP;have HXE:=aa (fun W (h:Below w.heap.size w W)=>GV a s W (hI.bZ h) hZ);have Rs:=aa (fun W (h:Below w.heap.size w W)=>(hI.bZ h).cells);have HXF:=aa (fun l (h:Bc s=some l)=>Fa hZ h);clear hI hZ;obtain⟨A1,q1,A2,q2,A3,q3,A4,q4,A5,q5,A6,q6,A7,q7,A8,q8⟩:=a;simp only[dU]at HXE Rs ⊢;have DV:=aa (show cN (w.alloc (.cells #[.string s.name,.slice A1 s.imports.length q1,.slice A2 s.inputs.length q2,.slice A3 s.tables.length q3,.slice A4 s.funcs.length q4,.slice A5 s.cells.length q5,.slice A6 s.ei.length q6,.slice A7 s.stores.length q7,.slice A8 s.cI.length q8] 31)) w.heap.size 31 [.string s.name,.slice A1 s.imports.length q1,.slice A2 s.inputs.length q2,.slice A3 s.tables.length q3,.slice A4 s.funcs.length q4,.slice A5 s.cells.length q5,.slice A6 s.ei.length q6,.slice A7 s.stores.length q7,.slice A8 s.cI.length q8]from heap_alloc_new w _);have iD:=aa (show Below w.heap.size w (w.alloc (.cells #[.string s.name,.slice A1 s.imports.length q1,.slice A2 s.inputs.length q2,.slice A3 s.tables.length q3,.slice A4 s.funcs.length q4,.slice A5 s.cells.length q5,.slice A6 s.ei.length q6,.slice A7 s.stores.length q7,.slice A8 s.cI.length q8] 31))from(aaf _ _).alloc aac _);go_enter func44,ntmps44;go_upto_region 1 with fail;generalize (w.alloc (.cells #[.string s.name,.slice A1 s.imports.length q1,.slice A2 s.inputs.length q2,.slice A3 s.tables.length q3,.slice A4 s.funcs.length q4,.slice A5 s.cells.length q5,.slice A6 s.ei.length q6,.slice A7 s.stores.length q7,.slice A8 s.cI.length q8] 31))=w1 at DV iD ⊢;have hz1:=iD.o.size;have hp1:=DV.o.lt;have x1:=DV.o.cell;have HX1:=aa (HXE.o w1 iD.o);clear HXE;go_wp2_with fail;refine HX1.o.mono ?_;rintro e w2 ⟨hh,hb2⟩;clear HX1 x1;have dG:=aa (iD.o.trans (hb2.mono hz1));have wC:=aa (DV.o.bZ hb2 DV.o.lt);clear iD DV hb2;rcases hh with⟨hn,rfl⟩|⟨l,A,c,hsome,rfl,rZ⟩
 (·have HN:=aa (show res=none by rw[vr.o,hn];rfl);clear vr HXF hn;go_wp2_with fail;exact HP.o _ _ ⟨.inl ⟨HN.o,rfl⟩,dG.o⟩);obtain⟨hr,F7,hlx⟩:=HXF.o l hsome;have En:=aa (show res=some (l.map (Da s.cells)) by rw[vr.o,hsome];rfl);have rV:=aa (fun x=>Xp hr x);have hnc:s.cells.length≤100:=by
  have:=(iC hr).len;(have:s.cells.length≤(uses s).length:=by simp[uses,iA,gP];omega);omega
 have HLx:=aa hlx;have HZC:=aa (show ∀ c∈s.cells,Ms c.name from fun c hc=>jE ((iC hr).cells c hc).1);have lI:=aa (rZ.mono (S':=fun b=>b<w2.heap.size) fun b hb q=>hb);obtain⟨n,hn⟩:∃ n,n=s.cells.length:=⟨_,rfl⟩;have Dl:=aa hn;have Dm:=aa (show l.length=n by omega);rw[← hn]at hnc wC rV;have hls:l.length=n:=Dm.o;clear vr HXF hsome rZ hr hlx F7 hn;have hmm:=@run_makeMap prog;go_upto_region 4 with fail;clear hls;go_upto_region 5 with fail;have eF:=aa (dG.o.alloc dG.o.size (.map #[] 0));have Bt:=aa (wC.o.alloc (.map #[] 0));have Fl:=aa (show fP (w2.alloc (.map #[] 0)) w2.heap.size 0 (OI (kM s.cells 0))from fP.made w2);have Xq:=aa (lI.o.alloc (.map #[] 0));have hg3:=Fl.o.lt;have hp2:=wC.o.lt;generalize (w2.alloc (.map #[] 0))=w3 at eF Bt Fl Xq hg3 ⊢;clear dG wC lI;generalize w2.heap.size=gi at Fl hg3 hp2 Xq ⊢;have x3:=Bt.o.cell;have hz3:=eF.o.size;go_wp2_with fail;go_loopw [25] (fun v wr=>∃ k:Nat,k≤n∧v= .int .i64 (k:Int)∧Hid (fP wr gi k (OI (kM s.cells k)))∧Hid (cB (fun b=>b≠gi) w3 wr)∧Hid (Below gi w3 wr)) (fun v _=>n - (intOf v).toNat);(case atStart=>exact⟨0,aaG _,rfl,Fl,aa (cB.refl _ _),aa (aaf _ _)⟩);clear Fl x3;obtain⟨k,hk,rfl,HM,Li,qL⟩:=hrel;by_cases hlt:k<n
 ·(have hkc:k<s.cells.length:=by have:=Dl.o;omega);have cG:=aa (eF.o.trans (qL.o.mono (Nat.le_of_lt hp2)));obtain⟨b,o,cs,nX,_,hbl,⟨es,hcs,he⟩,cM⟩:=(Rs.o wr cG.o).get hkc;subst nX;have Xm:kM s.cells (k+1)=fun nm=>if nm=s.cells[k].name then some k else kM s.cells k nm:=by
   funext nm;show(match s.cells[k]? with|some c=>if nm=c.name then some k else kM s.cells k nm|none=>kM s.cells k nm)=_;rw[List.getElem?_eq_getElem hkc]
  have hms:=HZC.o _ (aan hkc);generalize s.cells[k]=y at hcs he Xm hms;subst hcs;obtain⟨op,nn,un,nm,Ae,ce,ar,_,hes,_⟩:=he.parts;subst hes;have l_:∀ i v,([.string y.name,.string y.unit,.int .i64 op,.int .i64 nn,.string un,.string nm,.slice Ae ar.length ce]:List Value)[i]? =some v→wr.cell? ⟨b,o+k*7+i,none⟩=some v:=cM;have y0:wr.cell? ⟨b,o+k*7,none⟩=some (.string y.name):=l_ 0 _ rfl;have y1:wr.cell? ⟨b,o+k*7+1,none⟩=some (.string y.unit):=l_ 1 _ rfl;have y2:wr.cell? ⟨b,o+k*7+2,none⟩=some (.int .i64 op):=l_ 2 _ rfl;have y3:wr.cell? ⟨b,o+k*7+3,none⟩=some (.int .i64 nn):=l_ 3 _ rfl;have y4:wr.cell? ⟨b,o+k*7+4,none⟩=some (.string un):=l_ 4 _ rfl;have y5:wr.cell? ⟨b,o+k*7+5,none⟩=some (.string nm):=l_ 5 _ rfl;have y6:wr.cell? ⟨b,o+k*7+6,none⟩=some (.slice Ae ar.length ce):=l_ 6 _ rfl;have hnm:y.name.size≤maxLen:=hms;have F0:=HM.o.lt;clear cM l_ he hms;go_upto_region 8 with fail;have eA:=aa ((aaf wr.heap.size wr).alloc aac (.cells #[.string y.name,.string y.unit,.int .i64 op,.int .i64 nn,.string un,.string nm,.slice Ae ar.length ce] 49));have Rt:=aa (show cN (wr.alloc (.cells #[.string y.name,.string y.unit,.int .i64 op,.int .i64 nn,.string un,.string nm,.slice Ae ar.length ce] 49)) wr.heap.size 49 [.string y.name,.string y.unit,.int .i64 op,.int .i64 nn,.string un,.string nm,.slice Ae ar.length ce]from heap_alloc_new wr _);generalize (wr.alloc (.cells #[.string y.name,.string y.unit,.int .i64 op,.int .i64 nn,.string un,.string nm,.slice Ae ar.length ce] 49))=w6 at eA Rt ⊢;clear y0 y1 y2 y3 y4 y5 y6;have z6:=Rt.o.cell;have Ij:=aa (HM.o.bZ eA.o F0);go_upto_region 9 with(at_mapUpdate;refine rK _ rfl _ _ _ _ rfl 3 underlying96 gi k (OI (kM s.cells k)) rfl Ij.o aH y.name (.int .i64 (k:Int)) rfl rfl hnm ?_;intro w7 hm7 uA);have Tu:(fun k'=>if k'=y.name then some (Value.int .i64 (k:Int))else OI (kM s.cells k) k')=OI (kM s.cells (k+1)):=by
   funext nm';unfold OI;rw[Xm];by_cases h:nm'=y.name
   (·rw[if_pos h];simp[h]);rw[if_neg h];simp[h]
  rw[Tu]at hm7;have HM7:=aa hm7;have HKp7:=aa ((Li.o.trans (cB.cA eA.o)).trans (cB.fE uA fun b hb e=>hb bz));have HBl7:=aa ((qL.o.trans (eA.o.mono (Nat.le_of_lt F0))).trans (⟨uA.os,uA.tape,uA.output,uA.size,fun b hb=>uA.block b (by have:=Ij.o.lt;omega) (fun e=>by injection e with e;omega)⟩:Below gi w6 w7));clear Tu Xm hm7 uA z6 HM Li qL Ij eA Rt;go_wp2_with fail;go_roundw;(case rel=>exact⟨k+1,by omega,rfl,HM7,HKp7,HBl7⟩);(case measure=>simp[intOf];omega)
 (obtain rfl:k=n:=by omega);have HKs:=aa (show cN wr w.heap.size 31 _ from(Li.o.2 _ Bt.o.lt af).trans Bt.o);have HSq4:=aa (Xq.o.keep ⟨Li.o.1,fun b hb q=>Li.o.2 b hb af⟩);have gC:=aa (eF.o.trans (qL.o.mono (Nat.le_of_lt hp2)));have hgi4:=HM.o.lt;(have Xm:∀ nm i,kM s.cells k nm=some i→i<1000000:=fun nm i h=>by have:=(wX _ h).1;omega);have HIx:=aa Xm;clear Li qL eF Bt Xq hg3 hz3 Xm hlt HZC Rs;have hmk:∀ W:World,(Instr.makeSlice 103 (.int .i64 (k:Int)) (.int .i64 (k:Int))).run prog W= .ok (.slice (some ⟨W.heap.size,0,none⟩) k k) (W.alloc (.cells ((aaw k (Value.slice none 0 0)).toArray) 38)):=fun W=>by
  have:=run_make_row' (P:=prog) 103 38 (.slice none 0 0) 24 underlying103 J3 rfl .i64 .i64 k af af W;rw[show madeCells #[.slice none 0 0] k=(aaw k (Value.slice none 0 0)).toArray from by rw[← toList_madeCells_one]]at this;exact this
 go_upto_region 11 with fail;have VH:=aa (show cN (wr.alloc (.cells (aad k (Value.slice none 0 0)) 38)) wr.heap.size 38 (aaw k (Value.slice none 0 0))from(heap_alloc_new wr _).trans ai);have dF:=aa (gC.o.alloc gC.o.size (.cells (aad k (Value.slice none 0 0)) 38));have J2:=aa (HM.o.alloc (.cells (aad k (Value.slice none 0 0)) 38));have HSq5:=aa (HSq4.o.alloc (.cells (aad k (Value.slice none 0 0)) 38));have Ic:=aa (HKs.o.alloc (.cells (aad k (Value.slice none 0 0)) 38));have hpk:=HKs.o.lt;have hgo5:=VH.o.lt;generalize (wr.alloc (.cells (aad k (Value.slice none 0 0)) 38))=w5 at VH dF J2 HSq5 Ic hgo5 ⊢;clear HM HKs HSq4 gC hmk hmm hp1 hz1;generalize wr.heap.size=go at VH hpk hgi4 hgo5 ⊢;obtain⟨G,hG⟩:∃ G,G=l.map (Da s.cells):=⟨_,rfl⟩;rw[← hG]at En;have HG:=aa hG;clear hG;go_wp2_with fail;go_loopw [40] (fun v wr=>∃ (i:Nat) (vs:List Value),i≤k∧v= .int .i64 (i:Int)∧Hid (vs.length=i)∧Hid (cN wr go 38 (vs++aaw (k - i) (.slice none 0 0)))∧Hid (kI w.heap.size go wr.heap.size wr vs G)∧Hid (Below go w5 wr)) (fun v _=>k - (intOf v).toNat);(case atStart=>exact⟨0,[],aaG _,rfl,aa rfl,aa (by simpa using VH.o),aa kI.ql,aa (aaf _ _)⟩);clear VH;obtain⟨i,vs,hi,rfl,HVL,HGo,HRo,qL⟩:=hrel;by_cases hlt:i<k
 ·(have hil:i<l.length:=by have:=Dm.o;omega);obtain⟨b,o,cs,hA,yK,hbl,ey,cM⟩:=(HSq5.o.keep (cB.tP qL.o fun b hb=>by omega)).get hil;subst hA;have hmem:=aan hil;have hlx:=HLx.o _ hmem;(have hGi:G.getD i []=Da s.cells l[i]:=by rw[HG.o,aam,List.getElem?_map,List.getElem?_eq_getElem hil];rfl);obtain⟨eR,yn,eT,eU,Ax,cx,yr,oh,hes,hxs⟩:=cH.parts ey;generalize l[i]=x at ey hlx hGi oh;subst hes;have hgow:=HGo.o.lt;have g0:wr.cell? ⟨b,o+i*5,none⟩=some (.int .i64 eR):=cM 0 _ rfl;have g1:wr.cell? ⟨b,o+i*5+1,none⟩=some (.int .i64 yn):=cM 1 _ rfl;have g2:wr.cell? ⟨b,o+i*5+2,none⟩=some (.string eT):=cM 2 _ rfl;have g3:wr.cell? ⟨b,o+i*5+3,none⟩=some (.string eU):=cM 3 _ rfl;have g4:wr.cell? ⟨b,o+i*5+4,none⟩=some (.slice Ax yr.length cx):=cM 4 _ rfl;have HIS:=aa ey;have hmm:=@run_makeMap prog;clear cM ey oh hmem hxs;go_upto_region 15 with fail;have a1:(wr.alloc (.cells #[.int .i64 eR,.int .i64 yn,.string eT,.string eU,.slice Ax yr.length cx] 47)).heap.size=wr.heap.size+1:=aaI _ _;have eO:Below wr.heap.size wr ((wr.alloc (.cells #[.int .i64 eR,.int .i64 yn,.string eT,.string eU,.slice Ax yr.length cx] 47)).alloc (.map #[] 0)):=((aaf _ _).alloc aac _).alloc aU _;have hk6:cN ((wr.alloc (.cells #[.int .i64 eR,.int .i64 yn,.string eT,.string eU,.slice Ax yr.length cx] 47)).alloc (.map #[] 0)) wr.heap.size 47 [.int .i64 eR,.int .i64 yn,.string eT,.string eU,.slice Ax yr.length cx]:=cN.alloc (heap_alloc_new wr _) _;have hm6:=jb.made (wr.alloc (.cells #[.int .i64 eR,.int .i64 yn,.string eT,.string eU,.slice Ax yr.length cx] 47));rw[a1]at hm6;have Ij:=aa (show jb ((wr.alloc (.cells #[.int .i64 eR,.int .i64 yn,.string eT,.string eU,.slice Ax yr.length cx] 47)).alloc (.map #[] 0)) (wr.heap.size+1) 0 (yP fun _=>false)from hm6);have eA:=aa eO;have Rt:=aa hk6;generalize ((wr.alloc (.cells #[.int .i64 eR,.int .i64 yn,.string eT,.string eU,.slice Ax yr.length cx] 47)).alloc (.map #[] 0))=w6 at Ij eA Rt ⊢;clear g0 g1 g2 g3 g4 a1 eO hk6 hm6 hmm;have z6:=Rt.o.cell;have hgs6:=Ij.o.lt;have hs6:=eA.o.size;have hs5:=qL.o.size;have HC:=aa (Qd gi k (wr.heap.size+1) (kM s.cells k) HIx.o af 200 ak x hlx.2 hlx.1 0 (fun _=>false) w6 _ (by have:=hlx.2;omega) ((J2.o.bZ qL.o hgi4).bZ eA.o af) Ij.o (di.mono (di.keep HIS.o (cB.cA eA.o)) fun b hb q=>by omega));go_wp2_with fail;refine HC.o.mono ?_;rintro e w8 ⟨rfl,m8,hm8,hmm8,hk8,o_⟩;obtain⟨S8,hS8⟩:∃ S8:Int→Bool,S8=fun j=>false||yQ (kM s.cells k) x j:=⟨_,rfl⟩;rw[← hS8]at hmm8;have Xr:=aa (show(aav k).filter (fun j:Nat=>S8 (j:Int))=G.getD i [] by rw[hGi,hS8,Dl.o];rw[Dl.o]at rV;exact rV.o x);have Ru:=aa hmm8;have hs8:=o_.size;have HGo8:=aa (show cN w8 go 38 (vs++aaw (k - i) (.slice none 0 0))from(hk8.2 go af af).trans ((HGo.o.bZ eA.o hgow)));have HRo8:=aa (show kI w.heap.size go wr.heap.size w8 vs G from(HRo.o.keep (cB.cA eA.o)).keep ⟨hk8.1,fun b hb q=>hk8.2 b hb af⟩);have HBl8:=aa (show Below go w5 w8 from(qL.o.trans (eA.o.mono af)).trans (o_.mono af));have Rp:=aa (show cN w8 w.heap.size 31 _ from HBl8.o.block w.heap.size af |>.trans Ic.o);have hgs8:=Ru.o.lt;have hgow8:=HGo8.o.lt;clear hm8 hk8 o_ hs6 hs5 z6 HC Ij eA Rt HIS hS8 hGi HGo HRo qL hmm8 hlx hgs6;generalize hpb:wr.heap.size=pb at hgow hgs8 hs8 hbl Ru HRo8 ⊢;clear hpb hbl wr;have x8:=Rp.o.cell;obtain⟨K,hK⟩:∃ K,K=w8.heap.size:=⟨_,rfl⟩;have HKe:=aa hK;rw[← hK]at hgs8 hgow8;clear hK;go_wp2_with fail;go_loopw [53] (fun v wr=>∃ (q:Nat) (v0:Value),q≤k∧v= .int .i64 (q:Int)∧Hid (cN wr go 38 (vs++v0 :: aaw (k - (i+1)) (.slice none 0 0)))∧Hid (dO jV 3 K wr (fun _=>False) v0 ((aav q).filter fun j:Nat=>S8 (j:Int)))∧Hid (cB (fun b=>b≠go∧b<K) w8 wr)∧Hid (Below go w8 wr)) (fun v _=>k - (intOf v).toNat);(case atStart=>exact⟨0,.slice none 0 0,aaG _,rfl,by have:=HGo8.o;rw[show k - i=(k - (i+1))+1 by omega,List.replicate_succ]at this;exact aa this,aa dO.ql,aa (cB.refl _ _),aa (aaf _ _)⟩);clear HGo8 x8;obtain⟨q,v0,hq,rfl,HGq,Xt,YI,DW⟩:=hrel;have hs8K:K≤w8.heap.size:=Nat.le_of_eq HKe.o;have hs8L:w8.heap.size≤K:=Nat.le_of_eq HKe.o.symm;have rZ:=YI.o.1;by_cases hqk:q<k
  ·have hwf:(Lit.int .i64 (q:Int)).wf=true:=by
    have h1:IntKind.min .i64=-9223372036854775808:=ak;have h2:IntKind.max .i64=9223372036854775807:=ak;simp[Lit.wf,h1,h2];omega
   have YJ:=Ru.o.keep (YI.o.2 (pb+1) af ⟨by omega,by omega⟩);have hlk:=YJ.Ub (q:Int) hwf;have hfil:(aav (q+1)).filter (fun j:Nat=>S8 (j:Int))=(aav q).filter (fun j:Nat=>S8 (j:Int))++if S8 (q:Int)then[q]else[]:=by
    rw[List.range_succ,List.filter_append];congr 1;simp[List.filter_cons]
   have hfl:((aav q).filter (fun j:Nat=>S8 (j:Int))).length≤q:=by
    have:=List.length_filter_le (fun j:Nat=>S8 (j:Int)) (aav q)
    rwa [List.length_range]at this
   have Uc:=aa hfil;clear hfil;generalize hrow:(aav q).filter (fun j:Nat=>S8 (j:Int))=row at hfl Xt Uc;clear hrow;have hgoq:=HGq.o.lt;cases N_:S8 (q:Int)with
   |false=>
    have HO9:=aa (show dO jV 3 K wr (fun _=>False) v0 ((aav (q+1)).filter fun j:Nat=>S8 (j:Int)) by rw[Uc.o,N_];simpa using Xt.o);rw[N_]at hlk;clear hfl YJ hwf Xt Uc;go_wp2_with fail;go_roundw;(case rel=>exact⟨q+1,v0,by omega,rfl,HGq,HO9,YI,DW⟩);(case measure=>simp[intOf];omega)
   |true=>
    rw[N_]at hlk;have hR2:=aa (show(aav (q+1)).filter (fun j:Nat=>S8 (j:Int))=row++[q] by rw[Uc.o,N_];rfl);obtain⟨Aq,cq,hvq,_,_⟩:=Xt.o.slice;subst hvq;have hci:wr.cell? ⟨go,i,none⟩=some (.slice Aq row.length cq):=by
     rw[HGq.o.cell,List.getElem?_append_right (by rw[HVL.o];exact aaB _),HVL.o,Nat.sub_self];rfl
    have hOb:=aa (fun(o:Obj)=>Xt.o.bZ ((aaf wr.heap.size wr).alloc aac o));have hown:=aa (fun b (e:(Value.slice Aq row.length cq).ownBlock=some b)=>Xt.o.lt b e);clear Uc YJ hwf;go_wp2_with (at_builtin;refine dz (R:=jV) (S:=fun _=>False) (xs:=row) (ys:=[q]) (T:=3) (t:=38) (B:=K) rfl (.tmp 64) (.tmp 66) 38 rfl rfl Ua (hOb.o _) rfl _ 1 1 rfl rfl ?hN ?hl ?hB rfl (n:=row.length+1) rfl ?_);(case hN=>exact qQ.iM (R:=jV) (cs:=[.int .i64 (q:Int)]) (x:=q) rfl _ rfl);(case hl=>omega);(case hB=>rw[aaI];omega);intro A9 c9 w9 Ba HG;have s9:=HG.o.turn.size;rw[aaI]at s9;have kb:∀ b,b<wr.heap.size→(Value.slice Aq row.length cq).ownBlock≠some b→w9.heap[b]? =wr.heap[b]? :=fun b hb e=>(HG.o.turn.block b aJ (fun q=>e q.symm)).trans (heap_alloc_old wr _ hb);(have Qe:(Value.slice Aq row.length cq).ownBlock≠some go:=fun e=>by have:=(hown.o go e).1;omega);have hG9:cN w9 go 38 (vs++ .slice Aq row.length cq :: aaw (k - (i+1)) (.slice none 0 0)):=(kb go hgoq Qe).trans HGq.o;have f9:=hG9.frozen i;have z9:w9.cell? ⟨go,i,none⟩=some (.slice Aq row.length cq):=(World.cell?_of_block (a:=⟨go,i,none⟩) (kb go hgoq Qe)).trans hci;have nj:(vs++Value.slice Aq row.length cq :: aaw (k - (i+1)) (.slice none 0 0)).set i (.slice A9 (row.length+1) c9)=vs++Value.slice A9 (row.length+1) c9 :: aaw (k - (i+1)) (.slice none 0 0):=by
     rw[List.set_append_right _ _ (by rw[HVL.o];exact aaB _),HVL.o,Nat.sub_self,List.set_cons_zero]
    have HG10:=aa (show cN (w9.setCell ⟨go,i,none⟩ (.slice A9 (row.length+1) c9)) go 38 (vs++ .slice A9 (row.length+1) c9 :: aaw (k - (i+1)) (.slice none 0 0))from nj▸hG9.eB i _);have kf:∀ b,b≠go→(w9.setCell ⟨go,i,none⟩ (.slice A9 (row.length+1) c9)).heap[b]? =w9.heap[b]? :=fun b hb=>aae w9 ⟨go,i,none⟩ _ b hb;have OJ:(w9.setCell ⟨go,i,none⟩ (.slice A9 (row.length+1) c9)).heap.size=w9.heap.size:=bH;have HO10:=aa (show dO jV 3 K (w9.setCell ⟨go,i,none⟩ (.slice A9 (row.length+1) c9)) (fun _=>False) (.slice A9 (row.length+1) c9) ((aav (q+1)).filter fun j:Nat=>S8 (j:Int))from by
     rw[hR2.o];exact HG.o.own.Tv (by rw[OJ];exact aaB _) (fun b q=>kf b (fun e=>by have:=(HG.o.own.lt b q).1;omega)) (fun b _ q=>q.elim))
    have HK10:=aa (show cB (fun b=>b≠go∧b<K) w8 (w9.setCell ⟨go,i,none⟩ (.slice A9 (row.length+1) c9))from YI.o.trans ⟨by rw[OJ];omega,fun b hb h=>(kf b h.1).trans (kb b hb (fun e=>by have:=(hown.o b e).1;omega))⟩);have Xu:=aa (show Below go w8 (w9.setCell ⟨go,i,none⟩ (.slice A9 (row.length+1) c9))from DW.o.trans ⟨HG.o.turn.os,HG.o.turn.tape,HG.o.turn.output,by rw[OJ];omega,fun b hb=>(kf b af).trans (kb b af (fun e=>by have:=(hown.o b e).1;omega))⟩);clear nj hG9 kb kf OJ HG hOb hown Qe Xt HGq YI DW;go_wp2_with fail;go_roundw;(case rel=>exact⟨q+1,_,by omega,rfl,HG10,HO10,HK10,Xu⟩);(case measure=>simp[intOf];omega)
  (obtain rfl:q=k:=by omega);have hO:=Xt.o;rw[Xr.o]at hO;have HE:=aa (HRo8.o.keep ⟨YI.o.1,fun b hb h=>YI.o.2 b af ⟨h.2,by omega⟩⟩ |>.more hO (fun b h=>h) (by rw[HVL.o]) ⟨by omega,by omega,by omega⟩);have HG9:=aa (show cN wr go 38 ((vs++[v0])++aaw (q - (i+1)) (.slice none 0 0)) by rw[List.append_assoc];exact HGq.o);have HV9:=aa (show(vs++[v0]).length=i+1 by rw[aao,HVL.o];rfl);have je:=aa (HBl8.o.trans DW.o);clear Xt HGq YI DW hO;go_wp2_with fail;go_roundw;(case rel=>exact⟨i+1,vs++[v0],by omega,rfl,HV9,HG9,HE,je⟩);(case measure=>simp[intOf];omega)
 (obtain rfl:i=k:=by omega);have HE:=aa (show GX res w (.returned (.tuple #[.slice (some ⟨go,0,none⟩) i i,.bool true])) wr from by
  (have hbl:cN wr go 38 vs:=by have:=HGo.o;rwa [Nat.sub_self,List.replicate_zero,List.append_nil]at this);have hGl:G.length=i:=(by rw[HG.o,aap];exact Dm.o);exact⟨.inr ⟨G,_,i,En.o,by rw[hGl],HRo.o.sq hbl (by rw[HVL.o,hGl]) af⟩,dF.o.trans (qL.o.mono af)⟩)
 clear HGo HRo qL;go_wp2_with fail;exact HP.o _ _ HE.o
end
end
section
open Go Go.RowKit Bg Go.Proofs Sh Kb Go.Maps Hp
section
abbrev tv (l:List Nat):List Int:=l.map fun n:Nat=>(n:Int)
theorem kC {w w':World} {B T k n:Nat} {v:Value} {xs:List Value} (h:w.ownsRow B T k v n xs) (hk:∀ g,v.ownBlock=some g→w'.heap[g]? =w.heap[g]?):w'.ownsRow B T k v n xs:=by
 refine⟨h.1,?_⟩;rcases h.2 with q|⟨g,cap,cur,rfl,hB,hb,rest⟩
 (·exact .inl q);exact .inr ⟨g,cap,cur,rfl,hB,(hk g rfl).trans hb,rest⟩
structure Dp (B gu:Nat) (V:Nat→Prop) (n:Nat) (us:Nat→List Nat) (vs:List Value) (w:World):Prop where
 blk:cN w gu 38 vs
 len:vs.length=n
 row:∀ (k:Nat) (v:Value),vs[k]? =some v→w.ownsRow B 3 1 v (us k).length (ints (tv (us k)))
 Xv:∀ (k:Nat) (v:Value) (g:Nat),vs[k]? =some v→v.ownBlock=some g→V g
 sep:∀ (j k:Nat) (v v':Value) (g:Nat),vs[j]? =some v→vs[k]? =some v'→v.ownBlock=some g→v'.ownBlock=some g→j=k
 o:¬V gu
section
variable {B gu n:Nat} {V V':Nat→Prop} {us:Nat→List Nat} {vs:List Value} {w w':World}
theorem Dp.keep (h:Dp B gu V n us vs w) (hk:∀ b,b<w.heap.size→b=gu∨V b→w'.heap[b]? =w.heap[b]?):Dp B gu V n us vs w':=
 ⟨(hk gu h.blk.lt (.inl rfl)).trans h.blk,h.len,fun k v hv=>kC (h.row k v hv) fun g hg=>hk g ((h.row k v hv).lt g hg).2 (.inr (h.Xv k v g hv hg)),h.Xv,h.sep,h.o⟩
theorem Dp.mono (h:Dp B gu V n us vs w) (hs:∀ b,b<w.heap.size→V b→V' b) (ho:¬V' gu):Dp B gu V' n us vs w:=
 ⟨h.blk,h.len,h.row,fun k v g hv hg=>hs g ((h.row k v hv).lt g hg).2 (h.Xv k v g hv hg),h.sep,ho⟩
theorem Dp.push {w2:World} {k i c c':Nat} {A A':Option Addr} (h:Dp B gu V n us vs w) (hv:vs[k]? =some (bW A (us k).length c)) (hs:∀ b,b<w.heap.size→w'.heap[b]? =w.heap[b]?) (hz:w.heap.size≤w') (h1:w2.ownsRow B 3 1 (bW A' ((us k).length+1) c') ((us k).length+1) (ints (tv (us k)++[(i:Int)]))) (h2:w'.grownBy w2 (bW A (us k).length c).ownBlock) (h3:(bW A' ((us k).length+1) c').ownBlock=(bW A (us k).length c).ownBlock∨(bW A' ((us k).length+1) c').ownBlock=some w'.heap.size):Dp B gu (fun b=>V b∨w.heap.size≤b) n (fun j=>if j=k then us k++[i]else us j) (vs.set k (bW A' ((us k).length+1) c')) (w2.setCell (bY gu k) (bW A' ((us k).length+1) c'))∧∀ b,b<w.heap.size→b≠gu→¬V b→(w2.setCell (bY gu k) (bW A' ((us k).length+1) c')).heap[b]? =w.heap[b]? :=by
 have Wn:=h.blk.lt;have hkn:k<vs.length:=(List.getElem?_eq_some_iff.1 hv).1;have hkv:∀ b,b<w.heap.size→(bW A (us k).length c).ownBlock≠some b→w2.heap[b]? =w.heap[b]? :=fun b hb e=>(h2.block b af (fun q=>e q.symm)).trans (hs b hb);have hf:∀ b,b≠gu→(w2.setCell (bY gu k) (bW A' ((us k).length+1) c')).heap[b]? =w2.heap[b]? :=fun b hb=>aae w2 (bY gu k) _ b hb;have hgo:(bW A (us k).length c).ownBlock≠some gu:=fun e=>h.o (h.Xv k _ gu hv e);have hnew:∀ g,(bW A' ((us k).length+1) c').ownBlock=some g→(bW A (us k).length c).ownBlock=some g∨g=w'.heap.size:=fun g hg=>by
  rcases h3 with e|e
  (·exact .inl (e▸hg));rw[e]at hg;injection hg with hg;exact .inr hg.symm
 have hV:∀ g,(bW A' ((us k).length+1) c').ownBlock=some g→V g∨w.heap.size≤g:=fun g hg=>(hnew g hg).elim (fun e=> .inl (h.Xv k _ g hv e)) fun e=> .inr af;refine⟨⟨?_,by rw[List.length_set];exact h.len,fun j v hj=>?_,fun j v g hj hg=>?_,fun a b v v' g ha hb hga hgb=>?_,fun q=>q.elim h.o af⟩,fun b hb hb2 hb3=>(hf b hb2).trans (hkv b hb fun e=>hb3 (h.Xv k _ b hv e))⟩
 (·have hb2:cN w2 gu 38 vs:=(hkv gu Wn hgo).trans h.blk;exact hb2.eB k _)
 ·by_cases e:k=j
  ·subst e;rw[List.getElem?_set_self hkn]at hj;injection hj with hj;subst hj;have hl:(us k++[i]).length=(us k).length+1:=ai;simp only[if_true];rw[hl,show tv (us k++[i])=tv (us k)++[(i:Int)] by simp];exact kC h1 fun g hg=>hf g fun e=>by
    subst e;exact(hV _ hg).elim h.o af
  rw[List.getElem?_set_ne e]at hj;simp only[if_neg (fun q:j=k=>e q.symm)];have hr:=h.row j v hj;exact kC hr fun g hg=>(hf g fun q=>h.o (q▸h.Xv j v g hj hg)).trans (hkv g (hr.lt g hg).2 fun q=>e (h.sep k j _ v g hv hj q hg))
 ·by_cases e:k=j
  (·subst e;rw[List.getElem?_set_self hkn]at hj;injection hj with hj;subst hj;exact hV g hg);rw[List.getElem?_set_ne e]at hj;exact .inl (h.Xv j v g hj hg)
 have key:∀ j v,j≠k→(vs.set k (bW A' ((us k).length+1) c'))[j]? =some v→v.ownBlock=some g→(bW A' ((us k).length+1) c').ownBlock=some g→False:=fun j v hjk hj hgj hgk=>by
  rw[List.getElem?_set_ne (fun q=>hjk q.symm)]at hj;rcases hnew g hgk with e|e
  (·exact hjk (h.sep j k v _ g hj hv hgj e));have:=((h.row j v hj).lt g hgj).2;omega
 by_cases ea:a=k
 ·by_cases eb:b=k
  (·rw[ea,eb]);rw[ea,List.getElem?_set_self hkn]at ha;injection ha with ha;subst ha;exact(key b v' eb hb hgb hga).elim
 by_cases eb:b=k
 (·rw[eb,List.getElem?_set_self hkn]at hb;injection hb with hb;subst hb;exact(key a v ea ha hga hgb).elim);rw[List.getElem?_set_ne (fun q=>ea q.symm)]at ha;rw[List.getElem?_set_ne (fun q=>eb q.symm)]at hb;exact h.sep a b v v' g ha hb hga hgb
end
structure Eo (B p gl gu:Nat) (v:Value) (outs:List Nat) (L:List Int) (n:Nat) (us:Nat→List Nat) (q:List Nat) (U V:Nat→Prop) (A:Option Addr) (m c:Nat) (qb:List Int) (vs:List Value) (w:World):Prop where
 heap:jO p B U A m c qb w
 law:Hn qb m
 perm:qb.Perm (tv q)
 use:Dp B gu V n us vs w
 left:cN w gl 3 (ints L)
 o:w.ownsRow B 3 1 v outs.length (ints (tv outs))
 uv:∀ b,U b→¬V b
 gl3:¬U gl∧¬V gl∧gl≠gu∧gl≠p
 gu2:¬U gu∧gu≠p
 vp:¬V p
 vo:∀ b,v.ownBlock=some b→¬U b∧¬V b∧b≠gl∧b≠gu∧b≠p
 lo:B≤gl∧B≤gu
def Qf (B p gl gu:Nat) (v:Value) (outs:List Nat) (L:List Int) (n:Nat) (us:Nat→List Nat) (q:List Nat) (w:World):Prop:=∃ U V A m c qb vs,Eo B p gl gu v outs L n us q U V A m c qb vs w
section
variable {B p gl gu:Nat} {v:Value} {outs:List Nat} {L:List Int} {n:Nat} {us:Nat→List Nat} {q:List Nat} {U V:Nat→Prop} {A:Option Addr} {m c:Nat} {qb:List Int} {vs:List Value} {w w':World}
theorem Eo.bZ (h:Eo B p gl gu v outs L n us q U V A m c qb vs w) (hb:∀ b,b<w.heap.size→w'.heap[b]? =w.heap[b]?) (hz:w.heap.size≤w'):Eo B p gl gu v outs L n us q U V A m c qb vs w':=
 {h with heap:=h.heap.keep ⟨hz,fun b hb' _=>hb b hb'⟩,use:=h.use.keep fun b hb' _=>hb b hb',left:=(hb gl h.left.lt).trans h.left,o:=kC h.o fun g hg=>hb g (h.o.lt g hg).2}
theorem Qf.bZ (h:Qf B p gl gu v outs L n us q w) (hb:Below w w w'):Qf B p gl gu v outs L n us q w':=by
 obtain⟨U,V,A,m,c,qb,vs,h⟩:=h;exact⟨U,V,A,m,c,qb,vs,h.bZ (fun b hb'=>hb.block b hb') hb.size⟩
theorem Eo.setL (h:Eo B p gl gu v outs L n us q U V A m c qb vs w) (i:Nat) (z:Int):Eo B p gl gu v outs (L.set i z) n us q U V A m c qb vs (w.setCell (bY gl i) (bU z)):=by
 have hf:∀ b,b≠gl→(w.setCell (bY gl i) (bU z)).heap[b]? =w.heap[b]? :=fun b hb=>aae w (bY gl i) _ b hb;have hz:(w.setCell (bY gl i) (bU z)).heap.size=w.heap.size:=bH;obtain⟨a1,a2,a3,a4⟩:=h.gl3;refine {h with heap:=h.heap.keep ⟨by rw[hz];exact aaB _,fun b _ q=>hf b fun e=>?_⟩,use:=h.use.keep fun b _ q=>hf b fun e=>?_,left:=?_,o:=kC h.o fun g hg=>hf g (h.vo g hg).2.2.1}
 (·subst e;exact q.elim (fun e=>a4 e) a1)
 (·subst e;exact q.elim (fun e=>a3 e) a2);have:=h.left.eB i (bU z);rw[ints,List.map_set];exact this
theorem Eo.turn (h:Eo B p gl gu v outs L n us q U V A m c qb vs w) {A':Option Addr} {m' c':Nat} {Xw:List Int} {q':List Nat} (hh:jO p B (fun b=>U b∨w.heap.size≤b) A' m' c' Xw w') (hl:Hn Xw m') (hp:Xw.Perm (tv q')) (ht:Aw p B U w w'):Eo B p gl gu v outs L n us q' (fun b=>U b∨w.heap.size≤b) (fun b=>V b∧b<w.heap.size) A' m' c' Xw vs w':=by
 obtain⟨a1,a2,a3,a4⟩:=h.gl3;obtain⟨b1,b2⟩:=h.gu2;have zK:=h.left.lt;have Wn:=h.use.blk.lt;have hplt:=h.heap.sQ;have hk:=ht.keeps;have hu:=(h.use.mono (V':=fun b=>V b∧b<w.heap.size) (fun b hb q=>⟨q,hb⟩) (fun q=>h.use.o q.1)).keep (w':=w') fun b hb q=>hk.2 b hb (by
  rcases q with e|e
  (·subst e;exact⟨b2,b1⟩);exact⟨fun e2=>h.vp (e2▸e.1),fun e2=>h.uv b e2 e.1⟩)
 exact⟨hh,hl,hp,hu,(hk.2 gl zK ⟨a4,a1⟩).trans h.left,kC h.o fun g hg=>hk.2 g (h.o.lt g hg).2 ⟨(h.vo g hg).2.2.2.2,(h.vo g hg).1⟩,
  fun b q r=>q.elim (fun q=>h.uv b q r.1) (fun q=>by omega),⟨fun q=>q.elim a1 af,fun q=>a2 q.1,a3,a4⟩,⟨fun q=>q.elim b1 af,b2⟩,fun q=>h.vp q.1,
  fun b hb=>by
   obtain⟨c1,c2,c3,c4,c5⟩:=h.vo b hb;have:=(h.o.lt b hb).2;exact⟨fun q=>q.elim c1 af,fun q=>c2 q.1,c3,c4,c5⟩,h.lo⟩
theorem Eo.used (h:Eo B p gl gu v outs L n us q U V A m c qb vs w) {us':Nat→List Nat} {vs':List Value} (hu:Dp B gu (fun b=>V b∨w.heap.size≤b) n us' vs' w') (hz:w.heap.size≤w') (hk:∀ b,b<w.heap.size→b≠gu→¬V b→w'.heap[b]? =w.heap[b]?):Eo B p gl gu v outs L n us' q (fun b=>U b∧b<w.heap.size) (fun b=>V b∨w.heap.size≤b) A m c qb vs' w':=by
 obtain⟨a1,a2,a3,a4⟩:=h.gl3;obtain⟨b1,b2⟩:=h.gu2;have zK:=h.left.lt;have hplt:=h.heap.sQ;have hh:=(h.heap.mono (U':=fun b=>U b∧b<w.heap.size) (fun b hb q=>⟨q,hb⟩) (fun q=>h.heap.o q.1)).keep (w':=w') ⟨hz,fun b hb q=>hk b hb (q.elim (fun e=>by subst e;exact fun e=>b2 e.symm) fun e e2=>b1 (e2▸e.1)) (q.elim (fun e=>by subst e;exact h.vp) fun e=>h.uv b e.1)⟩;exact⟨hh,h.law,h.perm,hu,(hk gl zK a3 a2).trans h.left,kC h.o fun g hg=>hk g (h.o.lt g hg).2 (h.vo g hg).2.2.2.1 (h.vo g hg).2.1,
  fun b q r=>r.elim (fun r=>h.uv b q.1 r) (fun r=>by have:=q.2;omega),⟨fun q=>a1 q.1,fun q=>q.elim a2 af,a3,a4⟩,⟨fun q=>b1 q.1,b2⟩,fun q=>q.elim h.vp af,
  fun b hb=>by
   obtain⟨c1,c2,c3,c4,c5⟩:=h.vo b hb;have:=(h.o.lt b hb).2;exact⟨fun q=>c1 q.1,fun q=>q.elim c2 af,c3,c4,c5⟩,h.lo⟩
theorem Eo.came (h:Eo B p gl gu v outs L n us q U V A m c qb vs w) {v':Value} {i:Nat} {w2:World} (hs:∀ b,b<w.heap.size→w'.heap[b]? =w.heap[b]?) (hz:w.heap.size≤w') (h1:w2.ownsRow B 3 1 v' (outs.length+1) (ints (tv outs++[(i:Int)]))) (h2:w'.grownBy w2 v.ownBlock) (h3:v'.ownBlock=v.ownBlock∨v'.ownBlock=some w'.heap.size):Eo B p gl gu v' (outs++[i]) L n us q (fun b=>U b∧b<w.heap.size) (fun b=>V b∧b<w.heap.size) A m c qb vs w2:=by
 obtain⟨a1,a2,a3,a4⟩:=h.gl3;obtain⟨b1,b2⟩:=h.gu2;have zK:=h.left.lt;have Wn:=h.use.blk.lt;have hplt:=h.heap.sQ;have hk:∀ b,b<w.heap.size→v.ownBlock≠some b→w2.heap[b]? =w.heap[b]? :=fun b hb e=>(h2.block b af (fun q=>e q.symm)).trans (hs b hb);have hz2:=h2.size;have hh:=(h.heap.mono (U':=fun b=>U b∧b<w.heap.size) (fun b hb q=>⟨q,hb⟩) (fun q=>h.heap.o q.1)).keep (w':=w2) ⟨by omega,fun b hb q=>hk b hb fun e=>by
  obtain⟨c1,c2,c3,c4,c5⟩:=h.vo b e;exact q.elim c5 fun q=>c1 q.1⟩
 have hu:=(h.use.mono (V':=fun b=>V b∧b<w.heap.size) (fun b hb q=>⟨q,hb⟩) (fun q=>h.use.o q.1)).keep (w':=w2) fun b hb q=>hk b hb fun e=>by
  obtain⟨c1,c2,c3,c4,c5⟩:=h.vo b e;exact q.elim c4 fun q=>c2 q.1
 have hn:∀ g,v'.ownBlock=some g→v.ownBlock=some g∨g=w'.heap.size:=fun g hg=>by
  rcases h3 with e|e
  (·exact .inl (e▸hg));rw[e]at hg;injection hg with hg;exact .inr hg.symm
 refine⟨hh,h.law,h.perm,hu,(hk gl zK fun e=>(h.vo gl e).2.2.1 rfl).trans h.left,by rw[aao,show tv (outs++[i])=tv outs++[(i:Int)] by simp];exact h1,
  fun b q r=>h.uv b q.1 r.1,⟨fun q=>a1 q.1,fun q=>a2 q.1,a3,a4⟩,⟨fun q=>b1 q.1,b2⟩,fun q=>h.vp q.1,fun b hb=>?_,h.lo⟩
 rcases hn b hb with e|e
 (·obtain⟨c1,c2,c3,c4,c5⟩:=h.vo b e;exact⟨fun q=>c1 q.1,fun q=>c2 q.1,c3,c4,c5⟩);exact⟨fun q=>by have:=q.2;omega,fun q=>by have:=q.2;omega,by omega,by omega,by omega⟩
end
theorem Xx {w:World} {B n c:Nat} {A:Option Addr} {l:List Nat} (h:w.ownsRow B 3 1 (bW A n c) n (ints (tv l))):Sq jV w (fun b=>B≤b) A l:=by
 refine⟨l.map fun k:Nat=>[bU (k:Int)],by simp,fun hn=>?_,fun j cs x hc hx=>?_⟩
 ·(have hl:l.length=n:=by have:=h.1;simpa [ints,tv]using this);have h0:0<n:=by
   rw[← hl];cases l with
   |nil=>exact absurd rfl hn
   |cons a r=>simp
  obtain⟨g,cap,e,hB,hlt⟩:=h.form h0;injection e with e1 e2 e3;subst e1 e3;refine⟨g,0,rfl,hB,hlt,fun j cs hj i v hv=>?_⟩;rw[List.getElem?_map]at hj;cases hlj:l[j]? with
  |none=>rw[hlj]at hj;cases hj
  |some x=>
   rw[hlj]at hj;injection hj with hj;subst hj;(have hi:i=0:=by have:=(List.getElem?_eq_some_iff.1 hv).1;simpa using this);subst hi;have e:bU (x:Int)=v:=(by simpa using hv);subst e;have hjl:=(List.getElem?_eq_some_iff.1 hlj).1;show w.cell? (bY g (0+j*1+0))=_;rw[show 0+j*1+0=j by omega,h.cellAt j af,List.getElem?_map,List.getElem?_map,hlj];rfl
 rw[List.getElem?_map,hx]at hc;injection hc with hc;exact hc.symm
def GY (w:World) (n:Nat):World:=(((w.alloc (.cells (aad n (bU 0)) 3)).alloc (.cells (aad n cD) 38)).alloc (.cells #[] 3)).alloc (.cells #[bW (bY (w+1+1) 0) 0 0] 107)
theorem Eo.start (w:World) (n:Nat):Eo w (w+1+1+1) w (w+1) cD [] (aaw n 0) n (fun _=>[]) [] (fun b=>b=w.heap.size+1+1) (fun _=>False) (bY (w+1+1) 0) 0 0 [] (aaw n cD) (GY w n)∧Below w w (GY w n):=by
 have e1:(w.alloc (.cells (aad n (bU 0)) 3)).heap.size=w.heap.size+1:=aaI _ _;have e2:((w.alloc (.cells (aad n (bU 0)) 3)).alloc (.cells (aad n cD) 38)).heap.size=w.heap.size+1+1:=(by rw[aaI,e1]);have e3:(((w.alloc (.cells (aad n (bU 0)) 3)).alloc (.cells (aad n cD) 38)).alloc (.cells #[] 3)).heap.size=w.heap.size+1+1+1:=(by rw[aaI,e2]);have k1:=heap_alloc_new w (.cells (aad n (bU 0)) 3);have k2:=heap_alloc_new (w.alloc (.cells (aad n (bU 0)) 3)) (.cells (aad n cD) 38);have k3:=heap_alloc_new ((w.alloc (.cells (aad n (bU 0)) 3)).alloc (.cells (aad n cD) 38)) (.cells #[] 3);have k4:=heap_alloc_new (((w.alloc (.cells (aad n (bU 0)) 3)).alloc (.cells (aad n cD) 38)).alloc (.cells #[] 3)) (.cells #[bW (bY (w+1+1) 0) 0 0] 107);rw[e1]at k2;rw[e2]at k3;rw[e3]at k4;have b1:(GY w n).heap[w.heap.size]? =_:=(heap_alloc_old _ _ (by rw[e3];omega)).trans ((heap_alloc_old _ _ (by rw[e2];omega)).trans ((heap_alloc_old _ _ (by rw[e1];omega)).trans k1));have b2:(GY w n).heap[w.heap.size+1]? =_:=(heap_alloc_old _ _ (by rw[e3];omega)).trans ((heap_alloc_old _ _ (by rw[e2];omega)).trans k2);have b3:(GY w n).heap[w.heap.size+1+1]? =_:=(heap_alloc_old _ _ (by rw[e3];omega)).trans k3;have b4:(GY w n).heap[w.heap.size+1+1+1]? =_:=k4;refine⟨⟨⟨b4,⟨rfl,.inr ⟨_,0,#[],rfl,by omega,b3,aaB _,aaG _,by simp,by simp[ints]⟩⟩,rfl,by omega,by omega,fun g hg=>by injection hg with hg;exact hg.symm⟩,fun c h0 h1=>by omega,.refl _,⟨b2.trans ai,by simp,fun k v hv=>?_,fun k v g hv hg=>?_,fun j k v v' g hv _ hg=>?_,fun h=>h⟩,b1.trans (by simp[ints]),World.ownsRow_nil _ _ _ _,fun _ _ h=>h,⟨by omega,fun h=>h,by omega,by omega⟩,⟨by omega,by omega⟩,fun h=>h,fun b hb=>(nomatch hb),⟨by omega,by omega⟩⟩,?_⟩
 (·have:=List.eq_of_mem_replicate (List.mem_of_getElem? hv);subst this;exact World.ownsRow_nil _ _ _ _)
 (·have:=List.eq_of_mem_replicate (List.mem_of_getElem? hv);subst this;cases hg)
 (·have:=List.eq_of_mem_replicate (List.mem_of_getElem? hv);subst this;cases hg);exact(((((aaf _ w).alloc aac _).alloc (by rw[e1];omega) _).alloc (by rw[e2];omega) _).alloc (by rw[e3];omega) _)
end
end
open Go Go.RowKit Bg Go.Proofs Sh Kb Go.Maps Hp Kn
theorem pQ {s:cK} {g:List (List Nat)} (hz:gj s) (h:jU s=some g):g.length≤100∧g.length=s.cells.length∧(∀ i,(g.getD i []).Nodup∧(g.getD i []).length≤100)∧W9 g:=by
 unfold jU at h;cases hx:Bc s with
 |none=>rw[hx]at h;cases h
 |some l=>
  rw[hx]at h;injection h with h;obtain⟨hr,hl,_⟩:=Fa hz hx;have hn:s.cells.length≤100:=by
   have:=(iC hr).len;(have:s.cells.length≤(uses s).length:=by simp[uses,iA,gP];omega);omega
  have zK:g.length=s.cells.length:=(by rw[← h,aap,hl]);have hrow:∀ i,(g.getD i [])=[]∨∃ x,g.getD i []=Da s.cells x:=fun i=>by
   rw[← h,aam,List.getElem?_map];cases l[i]? with
   |none=>exact .inl rfl
   |some x=>exact .inr ⟨x,rfl⟩
  refine⟨by omega,zK,fun i=>?_,fun i k hk=>?_⟩
  ·rcases hrow i with e|⟨x,e⟩
   (·rw[e];exact⟨List.nodup_nil,by simp⟩);rw[e];refine⟨(List.nodup_range).filter _,?_⟩;have:=List.length_filter_le (fun k=>match s.cells[k]? with|some c=>dK (isName c.name) x|none=>false) (aav s.cells.length);rw[List.length_range]at this;exact aaC this hn
  rcases hrow i with e|⟨x,e⟩
  (·rw[e]at hk;simp at hk);rw[e]at hk;rw[zK];exact row_ok k hk
def GZ (r:Int×List Nat) (w:World) (e:Ending) (w':World):Prop:=∃ A c,e= .returned (.tuple #[bW A r.2 c,bU r.1])∧Sq jV w' (fun b=>w.heap.size≤b) A r.2∧Below w w w'
theorem Qg (a:j6) (s:cK) (w:World) (hI:eo w Any a s) (hZ:gj s):Calls prog 19 #[.agg (dU a s).toArray] w (GZ (jG s) w):=by
 have HRs:=aa (show jG s=match jU s with|none=>(1,[])|some g=>match jF g with|none=>(23,[])|some l=>(0,l)from rfl);generalize jG s=res at HRs;generalize hP:GZ res w=P;have HP:=aa (show ∀ e w',GZ res w e w'→P e w' from fun e w' h=>hP▸h);clear hP;have HGR:=aa (fun W (h:Below w w W)=>Fo a s W (hI.bZ h) hZ);have HGF:=aa (fun g (h:jU s=some g)=>pQ hZ h);clear hI hZ;obtain⟨A1,q1,A2,q2,A3,q3,A4,q4,A5,q5,A6,q6,A7,q7,A8,q8⟩:=a;simp only[dU]at HGR ⊢;have DV:=aa (show cN (w.alloc (.cells (g_ s A1 A2 A3 A4 A5 A6 A7 A8 q1 q2 q3 q4 q5 q6 q7 q8) 31)) w 31 (g_ s A1 A2 A3 A4 A5 A6 A7 A8 q1 q2 q3 q4 q5 q6 q7 q8)from heap_alloc_new w _);have iD:=aa (show Below w w (w.alloc (.cells (g_ s A1 A2 A3 A4 A5 A6 A7 A8 q1 q2 q3 q4 q5 q6 q7 q8) 31))from cS _);go_enter func19,ntmps19;go_upto_region 1 with fail;generalize (w.alloc (.cells (g_ s A1 A2 A3 A4 A5 A6 A7 A8 q1 q2 q3 q4 q5 q6 q7 q8) 31))=w1 at DV iD ⊢;have hz1:=iD.o.size;have hp1:=DV.o.lt;have x1:=DV.o.cell;have HX1:=aa (HGR.o w1 iD.o);clear HGR;go_wp2_with fail;refine HX1.o.mono ?_;rintro e w2 ⟨hh,hb2⟩;have dG:=aa (iD.o.trans (hb2.mono hz1));clear HX1 x1 iD DV hb2;rcases hh with⟨hn,rfl⟩|⟨g,A,c,hsome,rfl,rZ⟩
 (·have HN:=aa (show res=(1,[]) by rw[HRs.o,hn]);clear HRs HGF hn;go_wp2;exact HP.o _ _ (by rw[HN.o];exact⟨none,0,rfl,Sq.nil,dG.o⟩));obtain⟨hg1,zK,hg2,hg3⟩:=HGF.o g hsome;have En:=aa (show res=match jF g with|none=>(23,[])|some l=>(0,l) by rw[HRs.o,hsome]);have lI:=aa (rZ.mono (S':=fun b=>b<w2.heap.size) fun b hb q=>hb);have HNd:=aa hg2;have HGk:=aa hg3;obtain⟨n,hn⟩:∃ n,n=g.length:=⟨_,rfl⟩;have Dl:=aa hn;rw[← hn]at hg1 ⊢;clear HRs HGF hsome rZ hg2 hg3 hn zK;have hw2:=dG.o.size;have hmk1:∀ W:World,(Instr.makeSlice 38 (bU (n:Int)) (bU (n:Int))).run prog W= .ok (.slice (some ⟨W,0,none⟩) n n) (W.alloc (.cells (aad n (bU 0)) 3)):=fun W=>by
  have:=run_make_row' (P:=prog) 38 3 (bU 0) 8 underlying38 wB rfl .i64 .i64 n af af W;rw[show madeCells #[bU 0] n=aad n (bU 0)from by rw[← Array.toList_inj,toList_madeCells_one];simp]at this;exact this
 have hmk2:∀ W:World,(Instr.makeSlice 103 (bU (n:Int)) (bU (n:Int))).run prog W= .ok (bW (bY W 0) n n) (W.alloc (.cells (aad n (bW none 0 0)) 38)):=fun W=>by
  have:=run_make_row' (P:=prog) 103 38 cD 24 underlying103 J3 rfl .i64 .i64 n af af W;rw[show madeCells #[cD] n=aad n (bW none 0 0)from by rw[← Array.toList_inj,toList_madeCells_one];simp]at this;exact this
 go_upto_region 7 with fail;obtain⟨hM0,hB0⟩:=Eo.start w2 n;have HM0:=aa hM0;have gC:=aa hB0;clear hM0 hB0 hmk1 hmk2;change Code.wp _ _ _ _ (GY w2 n);have hB:w2.heap.size≤(GY w2 n).heap.size:=gC.o.size;generalize GY w2 n=w4 at HM0 gC hB ⊢;have Rq:=aa (show Qf w2 (w2+1+1+1) w2 (w2+1) cD [] (j_ g 0) n (iy g 0) (gW g 0) w4 from⟨_,_,_,_,_,_,_,by
  rw[JK,Dl.o.symm];exact HM0.o⟩)
 clear HM0;generalize w2.heap.size+1+1+1=p at Rq ⊢;generalize w2.heap.size+1+1=gr at ⊢;generalize w2.heap.size+1=gu at Rq ⊢;obtain⟨B,hBe⟩:∃ B,B=w2.heap.size:=⟨_,rfl⟩;rw[← hBe]at Rq lI gC hw2 hB ⊢;have pg:=aa hBe;clear hBe;go_wp2;go_loopw [34] (fun v wr=>∃ i:Nat,i≤n∧v=bU (i:Int)∧Hid (Qf B p B gu cD [] (j_ g i) n (iy g i) (gW g i) wr)∧Hid (Below B w2 wr)) (fun v _=>n - (intOf v).toNat);(case atStart=>exact⟨0,aaG _,rfl,Rq,gC⟩);clear Rq gC;obtain⟨i,hi,rfl,HS,qL⟩:=hrel;by_cases hlt:i<n;case neg=>
  (obtain rfl:i=n:=by omega);have HSn:=aa (show Qf B p B gu cD [] (lens g) i (iy g i) (gW g i) wr by have:=HS.o;rw[Dl.o,JL]at this;rw[Dl.o];exact this);clear HS hlt hi lI;obtain⟨K0,hK0⟩:∃ K0,K0=meas (lens g,gW g i):=⟨_,rfl⟩;have hKb:K0≤2*i:=(by rw[hK0,Dl.o];exact C_ g);have Ud:=aa (show meas (lens g,gW g i)<2*i+1∧oN g=[]++Ef (nA g) (2*i+1) (lens g,gW g i)from⟨by omega,by rw[Dl.o];rfl⟩);have DV:=aa hK0;have hx1:Tryz.prog.concrete 106=true:=ah;have hx2:Tryz.prog.concrete 3=true:=ah;clear hK0;go_upto_region 19 with fail;generalize wr=w7 at*;go_wp2;go_loopg [13] K0 (fun kx ZN wr=>∃ (outs:List Nat) (L:List Int) (q:List Nat) (f:Nat),meas (L,q)≤kx∧outs.length+meas (L,q)≤2*i∧Hid (Qf B p B gu ZN outs L i (iy g i) q wr)∧Hid (Below B w2 wr)∧Hid (W8 q)∧Hid (L.length=i)∧Hid (∀ k∈q,k<i)∧Hid (∀ k,-(200*(outs.length:Int))≤L.getD k 0∧L.getD k 0≤100)∧Hid (meas (L,q)<f∧oN g=outs++Ef (nA g) f (L,q)));(case atStart=>exact⟨[],lens g,gW g i,2*i+1,by have:=DV.o;omega,by have:=DV.o;simp;omega,HSn,qL,aa (MJ g i),aa (by rw[C9];exact Dl.o.symm),aa fun k hk=>List.mem_range.1 (List.mem_filter.1 hk).1,aa (fun k=>⟨by have:=(Dg (fun i=>(HNd.o i).2) k).1;simpa using this,(Dg (fun i=>(HNd.o i).2) k).2⟩),Ud⟩);clear HSn qL Ud;obtain⟨outs,L,q,f,hkx,hob,HS,qL,HAs,Dm,HQ,Ue,HKn⟩:=hrel;obtain⟨U,V,Ah,mh,ch,qb,vs,hM⟩:=HS.o;have hml:mh=q.length:=(by rw[← hM.heap.len,hM.perm.length_eq,aap]);have c0:b_ wr p 0 (bW Ah mh ch):=hM.heap.blk.cell 0;have vL:=aa (MQ Ah mh ch wr);obtain⟨Ao,co,hvo,_,_⟩:=iK hM.o;subst hvo;have HM:=aa hM;have holb:outs.length≤200:=af;clear hM HS;cases q with
  |nil=>
   obtain rfl:mh=0:=hml;have Ed:=aa (show oN g=outs from by have:=HKn.o.2;rwa [TQ,List.append_nil]at this);have HSqo:=aa ((Xx HM.o.o).mono (S':=fun b=>w.heap.size≤b) fun b _ q=>by omega);have cG:=aa (dG.o.trans (qL.o.mono hw2));go_upto_region 30 with(go_at_call 46;refine vL.o.mono ?_;rintro e w8 ⟨rfl,rfl⟩);by_cases hlt:outs.length<i
   ·have HE:=aa (show P (.returned (.tuple #[cD,bU 23])) wr from HP.o _ _ (by
     (have:jF g=none:=by unfold jF;rw[Ed.o,if_pos (by rw[← Dl.o];exact hlt)]);rw[En.o,this];exact⟨none,0,rfl,Sq.nil,cG.o⟩))
    clear HM;go_wp2;exact HE.o
   have HE:=aa (show P (.returned (.tuple #[bW Ao outs co,bU 0])) wr from HP.o _ _ (by
    (have:jF g=some outs:=by unfold jF;rw[Ed.o,if_neg (by rw[← Dl.o];exact hlt)]);rw[En.o,this];exact⟨Ao,co,rfl,HSqo.o,cG.o⟩))
   clear HM;go_wp2;exact HE.o
  |cons k q=>
   obtain⟨mq,YJ⟩:∃ mq,mq=q.length:=⟨_,rfl⟩;(obtain rfl:mh=mq+1:=by rw[hml,YJ];rfl);have hmq2:mq≤200:=by
    (have:meas (L,k :: q)=mq+1+L.countP (fun z=>decide (0<z)):=by rw[YJ];rfl);omega
   have hk0:=P5 HM.o.law HM.o.heap.len HM.o.perm HAs.o;have hki:k<i:=HQ.o k ai;(have hta:∀ W:World,(Instr.typeAssert (.iface 3 (bU (k:Int))) 20 3 false).run prog W= .ok (bU (k:Int)) W:=fun W=>by kernel_rfl);have hpo:=aa (hp_pop p B U Ah mq ch qb wr HM.o.heap HM.o.law af);have HML:=aa YJ;clear hml YJ;go_upto_region 22 with(first|(go_at_call 46;refine vL.o.mono ?_;rintro e w8 ⟨rfl,rfl⟩)|(go_at_call 47;refine hpo.o.mono ?_;(rintro e w8 ⟨rfl,l8,h8,p8,n8,t8⟩;rw[hk0])));have hm8:=HM.o.turn (q':=q) (h8.mono (U':=fun b=>U b∨wr.heap.size≤b) (fun b _ q=> .inl q) (fun q=>q.elim HM.o.heap.o (by have:=HM.o.heap.sQ;omega))) n8 (by
    have h1:=p8.trans HM.o.perm;rw[hk0]at h1;exact h1.cons_inv) t8
   have Ru:=aa hm8;have lD:=aa (qL.o.trans t8.low);have hsz8:=t8.low.size;clear hpo hm8 h8 p8 n8 t8 HM vL c0 hk0 qL;have Uf:=aa (fun(o:Obj)=>kC (w':=w8.alloc o) Ru.o.o fun b hb=>heap_alloc_old w8 o (Ru.o.o.lt b hb).2);have YK:(w8.alloc (.cells #[bU (k:Int)] 3)).cell? (bY w8 0)=some (bU (k:Int)):=cell_of_row _ _ _ _ _ _ (heap_alloc_new w8 _);(have hBw:B≤w8.heap.size:=by have:=lD.o.size;have:=pg.o;omega);have hvk0:k<vs.length:=(by rw[Ru.o.use.len];exact hki);have Ug:=List.getElem?_eq_getElem hvk0;generalize vs[k]=vv at Ug;have hown:=Ru.o.use.row k vv Ug;obtain⟨Au,cu,hv,_,_⟩:=iK hown;subst hv;have HUr:=aa (show(nA g).getD k []=iy g i k by rw[Dl.o];exact Df (by rw[← Dl.o];exact hki));have hRl:=ML g i k;have fH:=aa (fun j (h:j∈iy g i k)=>P8 h);obtain⟨RU,hRU⟩:∃ RU,RU=iy g i k:=⟨_,rfl⟩;rw[← hRU]at HUr hRl fH;obtain⟨mm,hmm⟩:∃ mm,mm=RU.length:=⟨_,rfl⟩;have BB:=aa hmm;have hvk':vs[k]? =some (bW Au mm cu):=(by rw[Ug,hmm,hRU]);have HVk:=aa hvk';have HRU:=aa hRU;rw[← hmm]at hRl;clear hown Ug hRU hvk0 hmm;go_wp2_with (at_builtin;refine lT rfl (.tmp 79) (.tmp 81) 38 rfl underlying38 (Uf.o _) rfl rfl YK af (by rw[aaI];exact Nat.le_succ_of_le hBw) ?_);intro A9 c9 w9 g1 g2 g3;have hm9:=Ru.o.came (fun b hb=>heap_alloc_old w8 _ hb) aJ (by simpa [ints,tv]using g1) g2 (by rw[aaI];exact g3);have je:=aa (lD.o.trans (((aaf B w8).alloc hBw _).grown g2 aJ fun b hb=>((Uf.o (.map #[] 0)).lt b hb).1));have u0:b_ w9 gu k (bW Au mm cu):=(hm9.use.blk.cell k).trans hvk';have Ol:=aa (show ∃ U V A m c qb,Eo B p B gu (bW A9 (outs.length+1) c9) (outs++[k]) (gO (RU.take 0) (L,q)).1 i (iy g i) (gO (RU.take 0) (L,q)).2 U V A m c qb vs w9 from⟨_,_,_,_,_,_,hm9⟩);have HMe:=aa (show meas (L,k :: q)=meas (L,q)+1 by simp[meas];omega);go_wp2_with fail;clear hm9 g1 g2 g3 Uf YK Ru lD hvk' u0 hBw hsz8 hta;generalize w8.heap.size=z8 at ⊢;clear wr w8;go_loopw [88] (fun v wr=>∃ j:Nat,j≤mm∧v=bU (j:Int)∧Hid (∃ U V A m c qb,Eo B p B gu (bW A9 (outs.length+1) c9) (outs++[k]) (gO (RU.take j) (L,q)).1 i (iy g i) (gO (RU.take j) (L,q)).2 U V A m c qb vs wr)∧Hid (Below B w9 wr)) (fun v _=>mm - (intOf v).toNat);(case atStart=>exact⟨0,aaG _,rfl,Ol,aa (aaf _ _)⟩);clear Ol;obtain⟨j,hj,rfl,HMj,Bi⟩:=hrel;by_cases hjm:j<mm;case neg=>
    (obtain rfl:j=mm:=by omega);rw[BB.o,List.take_length]at HMj;have MW:=aa (show Qf B p B gu (bW A9 (outs.length+1) c9) (outs++[k]) (gO RU (L,q)).1 i (iy g i) (gO RU (L,q)).2 wr from by
     obtain⟨U,V,A,m,c,qb,h⟩:=HMj.o;exact⟨U,V,A,m,c,qb,vs,h⟩)
    have HB9':=aa (je.o.trans Bi.o);have hrm:=uZ (us:=RU) (s:=(L,q)) (fun m hm=>by rw[Dm.o];exact fH.o m hm);have hAs:=P6 RU (s:=(L,q)) (List.pairwise_cons.1 HAs.o).2;have hLe:=(yE RU (L,q)).trans Dm.o;have hQ:=P7 RU (s:=(L,q)) (n:=i) (fun m hm=>fH.o m hm) (fun m hm=>HQ.o m (by simp[hm]));have VS:=Fe RU (s:=(L,q)) (fun m hm=>by rw[Dm.o];exact fH.o m hm) Ue.o;have hK:meas (gO RU (L,q))<f - 1∧oN g=(outs++[k])++Ef (nA g) (f - 1) (gO RU (L,q)):=by
     obtain⟨h1,h2⟩:=HKn.o;rw[HMe.o]at h1;refine⟨by omega,?_⟩;rw[h2,show f=(f - 1)+1 by omega,Ff,HUr.o,List.append_assoc];rfl
    have hme:=HMe.o;have hml:=BB.o;have HF:=aa (And.intro hAs (And.intro hLe (And.intro hQ (And.intro VS hK))));have hl1:(outs++[k]).length=outs.length+1:=ai;clear hAs hLe hQ VS hK HMj je Bi HKn Ue HQ HAs Dm;generalize gO RU (L,q)=s9 at MW HF hrm;obtain⟨L9,q9⟩:=s9;go_wp2;go_roundg (meas (L9,q9));(case measure=>omega);(case rel=>exact⟨outs++[k],L9,q9,f - 1,aaB _,by omega,MW,HB9',aa HF.o.1,aa HF.o.2.1,aa HF.o.2.2.1,aa (fun m=>by have:=HF.o.2.2.2.1 m;rw[hl1];omega),aa HF.o.2.2.2.2⟩)
   (have Uh:j<RU.length:=by have:=BB.o;omega);obtain⟨U,V,Ah,mh,ch,qb,hM⟩:=HMj.o;have hrow:=hM.use.row k _ HVk.o;have hrow:wr.ownsRow B 3 1 (bW Au mm cu) mm (ints (tv RU)):=(by rw[← HRU.o, ← BB.o]at hrow;exact hrow);obtain⟨g0,cap0,e0,_,_⟩:=hrow.form af;injection e0 with e1 e2 e3;subst e1 e3;have k0:b_ wr g0 j (bU ((RU[j]:Nat):Int)):=by
    rw[hrow.cellAt j af,List.getElem?_map,List.getElem?_map,List.getElem?_eq_getElem Uh];rfl
   have hkn:=fH.o _ (aan Uh);have nZ:=aa (MK (s:=(L,q)) Uh);have hrm:=uZ (us:=RU.take j) (s:=(L,q)) (fun m hm=>by rw[Dm.o];exact fH.o m (List.mem_of_mem_take hm));have hLe:=(yE (RU.take j) (L,q)).trans Dm.o;have VS:=Fe (RU.take j) (s:=(L,q)) (fun m hm=>by rw[Dm.o];exact fH.o m (List.mem_of_mem_take hm)) Ue.o RU[j];have hlt:(RU.take j).length=j:=(by rw[List.length_take];omega);rw[hlt]at VS;have hqm:(gO (RU.take j) (L,q)).2.length≤meas (gO (RU.take j) (L,q)):=(by unfold meas;omega);generalize RU[j]=kk at k0 hkn nZ VS;generalize gO (RU.take j) (L,q)=s9 at hM nZ hrm hLe VS hqm;obtain⟨L9,q9⟩:=s9;simp only at hM hLe VS hqm;have nO:kk<L9.length:=af;obtain⟨z,hz⟩:∃ z,z=L9.getD kk 0:=⟨_,rfl⟩;have hgd:(L9.set kk (z - 1)).getD kk 0=z - 1:=mU nO _;have HLs:=aa (show less (L9,q9) kk=(L9.set kk (z - 1),if z - 1=0 then ins kk q9 else q9) by unfold less;simp only[← hz];rw[hgd]);rw[← hz]at VS;have c0:b_ wr B kk (bU z):=by
    rw[hM.left.cell,List.getElem?_map,List.getElem?_eq_getElem nO,hz,aam,List.getElem?_eq_getElem nO];rfl
   have f0:=hM.left.frozen kk;have hzlo:-100000≤z:=af;have hzhi:z≤100:=VS.2;have hMS:=hM.setL kk (z - 1);have hmh:mh=q9.length:=(by rw[← hM.heap.len,hM.perm.length_eq,aap]);have hme:=HMe.o;have hmh2:mh+1≤1000000:=(by rw[hmh];omega);have G2:=aa hMS;clear hM hMS hrow hrm hLe VS hqm hgd hz hmh hme HMj;go_upto_region 27 with fail;have DX:=aa (Bi.o.setCell (p:=bY B kk) aac (bU (z - 1)));have c1:(wr.setCell (bY B kk) (bU (z - 1))).cell? (bY B kk)=some (bU (z - 1)):=by
    rw[G2.o.left.cell,List.getElem?_map,List.getElem?_set_self nO];rfl
   generalize (wr.setCell (bY B kk) (bU (z - 1)))=Xy at G2 DX c1 ⊢;clear c0 f0 k0;by_cases h0:z - 1=0
   ·have hb0:(z - 1==0)=true:=aS;have HTk2:=aa (show gO (RU.take (j+1)) (L,q)=(L9.set kk (z - 1),ins kk q9) by rw[nZ.o,HLs.o,if_pos h0]);have hpu:=aa (OB p B U Ah mh ch qb (kk:Int) Xy G2.o.heap G2.o.law hmh2);clear h0;go_wp2_with (go_at_call 45;refine hpu.o.mono ?_;rintro e w11 ⟨rfl,A7,c7,l7,h7,⟨p7,n7⟩,t7⟩);have HS11:=aa (G2.o.turn (q':=ins kk q9) h7 n7 (by
     refine p7.trans ((G2.o.perm.cons _).trans ?_);exact((sV kk q9).map fun n:Nat=>(n:Int)).symm) t7)
    have HB11:=aa (DX.o.trans t7.low);go_roundw;exact⟨j+1,by omega,rfl,aa (by rw[HTk2.o];exact⟨_,_,_,_,_,_,HS11.o⟩),HB11⟩;simp[intOf];omega
   have hb0:(z - 1==0)=false:=aS;have HTk2:=aa (show gO (RU.take (j+1)) (L,q)=(L9.set kk (z - 1),q9) by rw[nZ.o,HLs.o,if_neg h0]);clear h0;go_wp2;go_roundw;exact⟨j+1,by omega,rfl,aa (by rw[HTk2.o];exact⟨_,_,_,_,_,_,G2.o⟩),DX⟩;simp[intOf];omega
 case pos=>
  have YL:i<g.length:=by have:=Dl.o;omega
  obtain⟨b,o,cs,hA,yK,hbl,⟨Al,cl,hcs,hrow⟩,cM⟩:=(lI.o.keep (cB.tP qL.o fun b hb=>hb)).get YL
  subst hA hcs
  have hgi:g.getD i []=g[i]:=by rw[aam,List.getElem?_eq_getElem YL];rfl
  have c0:b_ wr b (o+i) (bW Al g[i].length cl):=by have:=cM 0 _ rfl;rwa [show o+i*Fm.k+0=o+i by show o+i*1+0=_;omega]at this
  have hrk:∀ k∈g[i],k<n:=fun k hk=>by have:=HGk.o i k (hgi▸hk);rw[Dl.o];exact this
  have F7:=JM YL
  rw[hgi]at F7
  have WI:=TL g i
  have hnd:=(HNd.o i).1
  have hmb:=(HNd.o i).2
  have hrn:=JJ g i
  have hst:=fun j (hj:j<(g.getD i []).length)=>TN hnd hj
  have hfl:=TM g i
  rw[hgi]at hnd hrn hst hfl hmb
  generalize g[i]=row at hrow c0 hrk F7 hnd hrn hst hfl hgi hmb
  obtain⟨m,hm⟩:∃ m,m=row.length:=⟨_,rfl⟩
  have Ii:=aa hm
  rw[← hm]at c0 F7 hfl hmb
  have HLL:=aa F7
  have HUs:=aa WI
  have HRn:=aa hrn
  have yO:=aa hst
  have HFl:=aa hfl
  have rV:=aa (fun W (h:Below B wr W)=>hrow.keep (cB.tP h fun b hb=>hb))
  have HRk:=aa hrk
  clear cM hm F7 WI hrn hst hfl hgi hnd hrow hrk
  obtain⟨U,V,Ah,mh,ch,qb,vs,hM⟩:=HS.o
  have hgz:=hM.left.lt
  have zc:b_ wr B i (bU ((j_ g i)[i]'(by rw[De af];exact YL))):=by
   rw[hM.left.cell,List.getElem?_map,List.getElem?_eq_getElem (by rw[De af];exact YL)];rfl
  have zf:=hM.left.frozen i
  have hqb:(gW g i).length≤i:=by
   have:=List.length_filter_le (fun j=>(g.getD j []).isEmpty) (aav i)
   rwa [List.length_range]at this
  have hmh:mh=(gW g i).length:=by rw[← hM.heap.len,hM.perm.length_eq,aap]
  have Ij:=aa (hM.setL i (m:Int))
  rw[HLL.o]at Ij
  have hx1:Tryz.prog.concrete 106=true:=by kernel_rfl
  have hx2:Tryz.prog.concrete 3=true:=by kernel_rfl
  clear hM
  go_upto_region 11 with fail
  have eA:=aa (qL.o.setCell (p:=bY B i) aac (bU (m:Int)))
  have hz6:(wr.setCell (bY B i) (bU (m:Int))).heap.size=wr.heap.size:=by simp[World.setCell]
  have cG:=aa ((aaf B wr).setCell (p:=bY B i) aac (bU (m:Int)))
  generalize (wr.setCell (bY B i) (bU (m:Int)))=w6 at Ij eA hz6 cG ⊢
  clear zc zf c0 HS HLL
  have HR6:=aa (rV.o w6 cG.o)
  clear rV qL hgz hbl hz6 cG
  rcases Nat.eq_zero_or_pos m with h0|h0
  case' inl=>
   have h2:(m==0)=true:=by simpa using h0
   have h3:((m:Int)==0)=true:=by simpa using h0
   have PT:=aa h0
   clear h0
   have hpu:=aa (OB p B U Ah mh ch qb (i:Int) w6 Ij.o.heap Ij.o.law af)
   go_upto_region 13 with(go_at_call 45;refine hpu.o.mono ?_;rintro e w7 ⟨rfl,A7,c7,l7,h7,⟨p7,n7⟩,t7⟩)
   have wW:row=[]:=List.eq_nil_of_length_eq_zero (Ii.o.symm.trans PT.o)
   have HS7:=aa (show Qf B p B gu cD [] (j_ g (i+1)) n (Fc g i 0) (gW g (i+1)) w7 from⟨_,_,_,_,_,_,_,Ij.o.turn (q':=gW g (i+1)) h7 n7 (by
    rw[HRn.o,wW];refine p7.trans ?_;rw[show tv (gW g i++if([]:List Nat).isEmpty=true then[i]else[])=tv (gW g i)++[(i:Int)] by simp];exact(Ij.o.perm.cons _).trans (List.perm_append_comm (l₁:=[(i:Int)]))) t7 |> fun h=>HUs.o▸h⟩)
   have ko:=aa (eA.o.trans t7.low)
   have HR7:=aa (HR6.o.keep (cB.tP t7.low fun b hb=>hb))
   clear h7 p7 n7 t7 hpu Ij eA HR6 wW h2 h3
   have HE1:=aa (fun j (h:j<m)=>(by have:=PT.o;omega:False))
   clear PT
  case' inr=>
   have h1:¬m=0:=by omega
   have h2:(m==0)=false:=by simpa using h1
   have h3:((m:Int)==0)=false:=by simpa using h1
   go_upto_region 13 with fail
   have HS7:=aa (show Qf B p B gu cD [] (j_ g (i+1)) n (Fc g i 0) (gW g (i+1)) w6 from⟨_,_,_,_,_,_,_,by
    have hne:row.isEmpty=false:=by
     cases row with
     |nil=>exact absurd Ii.o aF
     |cons a r=>rfl
    rw[HRn.o,hne,HUs.o];simpa using Ij.o⟩)
   have ko:=eA
   have HR7:=HR6
   have HE1:=aa trivial
   clear h1 h2 h3 Ij eA HR6
   generalize w6=w7 at*
  all_goals (
   clear hmh HRn HUs U V Ah mh ch qb vs
   clear wr w6
   go_wp2_with fail
   go_loopw [54] (fun v wr=>∃ j:Nat,j≤m∧v=bU (j:Int)∧Hid (Qf B p B gu cD [] (j_ g (i+1)) n (Fc g i j) (gW g (i+1)) wr)∧Hid (Below B w7 wr)) (fun v _=>m - (intOf v).toNat)
   case atStart=>exact⟨0,aaG _,rfl,HS7,aa (aaf _ _)⟩
   case round=>
    clear HS7;obtain⟨j,hj,rfl,HSj,Bi⟩:=hrel;by_cases hjm:j<m;(case neg=>(obtain rfl:j=m:=by omega);have MW:=aa (show Qf B p B gu cD [] (j_ g (i+1)) n (iy g (i+1)) (gW g (i+1)) wr from HFl.o▸HSj.o);have je:=aa (ko.o.trans Bi.o);clear HSj Bi ko HR7;go_wp2;go_roundw;exact⟨i+1,by omega,rfl,MW,je⟩;simp[intOf];omega);first
     |exact(HE1.o j hjm).elim
     |(
      have Uh:j<row.length:=by have:=Ii.o;omega
      obtain⟨bl,ol,cs,hAl,_,_,hcs,cM⟩:=(HR7.o.keep (cB.tP Bi.o fun b hb=>hb)).get Uh
      subst hAl
      have hcs:cs=[bU ((row[j]:Nat):Int)]:=hcs
      subst hcs
      have k0:b_ wr bl (ol+j) (bU ((row[j]:Nat):Int)):=by have:=cM 0 _ rfl;rwa [show ol+j*jV.k+0=ol+j by show ol+j*1+0=_;omega]at this
      have hkn:=HRk.o _ (aan Uh)
      have Ov:=aa (yO.o j Uh)
      generalize row[j]=k at k0 hkn Ov
      obtain⟨U,V,Ah,mh,ch,qb,vs,hM⟩:=HSj.o
      have hkv:k<vs.length:=by rw[hM.use.len];exact hkn
      have Ug:=List.getElem?_eq_getElem hkv
      generalize vs[k]=vv at Ug
      have hown:=hM.use.row k vv Ug
      obtain⟨Av,cv,hv,_,_⟩:=iK hown
      subst hv
      have D9:(Fc g i j k).length≤i+1:=by
       unfold Fc iy;have h1:=List.length_filter_le (fun i=>(g.getD i []).contains k) (aav i);rw[List.length_range]at h1;rw[aao];refine Nat.add_le_add h1 ?_;split<;>simp
      have u0:b_ wr gu k (bW Av (Fc g i j k).length cv):=(hM.use.blk.cell k).trans Ug
      have Uf:=aa (fun(o:Obj)=>kC (w':=wr.alloc o) hown fun b hb=>heap_alloc_old wr o (hown.lt b hb).2)
      have YK:(wr.alloc (.cells #[bU (i:Int)] 3)).cell? (bY wr 0)=some (bU (i:Int)):=cell_of_row _ _ _ _ _ _ (heap_alloc_new wr _)
      have HM:=aa hM
      have hBw:B≤wr.heap.size:=by have:=Bi.o.size;have:=ko.o.size;have:=pg.o;omega
      clear cM hM hown HSj
      go_wp2_with (at_builtin;refine lT rfl (.tmp 63) (.tmp 65) 38 rfl underlying38 (Uf.o _) rfl rfl YK af (by rw[aaI];exact Nat.le_succ_of_le hBw) ?_)
      intro A9 c9 w9 g1 g2 g3
      have s9:=g2.size
      rw[aaI]at s9
      have hUP:=HM.o.use.push (i:=i) Ug (fun b hb=>heap_alloc_old wr _ hb) aJ (by simpa [ints,tv]using g1) g2 (by rw[aaI];exact g3)
      rw[Ov.o]at hUP
      have hbl:=HM.o.use.blk
      have Qe:(bW Av (Fc g i j k).length cv).ownBlock≠some gu:=fun e=>HM.o.use.o (HM.o.use.Xv k _ gu Ug e)
      have k9:w9.heap[gu]? =wr.heap[gu]? :=(g2.block gu (by rw[aaI];have:=hbl.lt;omega) (fun q=>Qe q.symm)).trans (heap_alloc_old wr _ hbl.lt)
      have b9:cN w9 gu 38 vs:=k9.trans hbl
      have f9:=b9.frozen k
      have z9:b_ w9 gu k (bW Av (Fc g i j k).length cv):=(b9.cell k).trans Ug
      have hsz:(w9.setCell (bY gu k) (bW A9 ((Fc g i j k).length+1) c9)).heap.size=w9.heap.size:=by simp[World.setCell]
      have MW:=aa (show Qf B p B gu cD [] (j_ g (i+1)) n (Fc g i (j+1)) (gW g (i+1)) (w9.setCell (bY gu k) (bW A9 ((Fc g i j k).length+1) c9))from⟨_,_,_,_,_,_,_,HM.o.used hUP.1 (by rw[hsz];omega) hUP.2⟩)
      have je:=aa (show Below B w7 (w9.setCell (bY gu k) (bW A9 ((Fc g i j k).length+1) c9))from
       (((Bi.o.alloc hBw _).grown g2 aJ fun b hb=>((Uf.o (.map #[] 0)).lt b hb).1).setCell (p:=bY gu k) HM.o.lo.2 _))
      clear hUP hbl Qe k9 b9 hsz g1 g2 g3 Uf YK u0 k0 HM Bi
      go_wp2_with fail
      go_roundw
      case rel=>exact⟨j+1,by omega,rfl,MW,je⟩
      case measure=>simp[intOf];omega))
end Go.Proofs.YtfppbjfnllhgcaaGreat
namespace Ln
open Go.Proofs.YtfppbjfnllhgcaaGreat Kb Sh
section
def OM (o:List Nat) (a b:Nat):Prop:=∃ u v:Nat,u<v∧o[u]? =some a∧o[v]? =some b
theorem Xz {o:List Nat} (h:o.Nodup) {u v a:Nat} (hu:o[u]? =some a) (hv:o[v]? =some a):u=v:=by
 obtain⟨h1,e1⟩:=List.getElem?_eq_some_iff.1 hu;obtain⟨h2,e2⟩:=List.getElem?_eq_some_iff.1 hv;exact Pj h h1 h2 (e1.trans e2.symm)
theorem OM.trans {o:List Nat} (h:o.Nodup) {a b c:Nat} (p:OM o a b) (q:OM o b c):OM o a c:=by
 obtain⟨u,v,h1,h2,h3⟩:=p;obtain⟨u',v',h4,h5,h6⟩:=q;have:=Xz h h3 h5;exact⟨u,v',by omega,h2,h6⟩
section
variable {s:cK} {g:List (List Nat)} (hg:jU s=some g)
include hg
end
end
end Ln
namespace Ck
open Go.Proofs.YtfppbjfnllhgcaaGreat Kb Sh
section
structure nS where
 truth:Bool
 jP:List Int
deriving DecidableEq
def zT:nS:=⟨false,eM⟩
def oA (d:List Int):nS:=⟨false,d⟩
def MX:nS:=⟨true,eM⟩
abbrev fF:=ByteArray×List Int
def iR (l:List fF) (nm:ByteArray):Option (List Int):=(l.reverse.find? fun v=>v.1==nm).map (·.2)
theorem vt (l:List fF) (v:fF) (nm:ByteArray):iR (l++[v]) nm=if nm=v.1 then some v.2 else iR l nm:=by
 unfold iR;rw[List.reverse_append,List.reverse_singleton,List.singleton_append,List.find?_cons];by_cases e:nm=v.1
 (·subst e;simp);(have:(v.1==nm)=false:=by rw[beq_eq_false_iff_ne];exact fun h=>e h.symm);rw[this,if_neg e]
def ur:List ByteArray→List ByteArray→Nat
 |_,[]=>0
 |seen,x :: l=>(if x∈seen then 0 else 1)+ur (x :: seen) l
def MZ (v:fF):Bool:=dY v.1&&dN v.2
def Qh (vs:List fF) (t:dZ):Bool:=cR t.unit&&(iR vs t.name).isNone&&gG t&& !rL t.name
def jh (ts:List dZ):List fF:=ts.map fun t=>(t.name,iu t.unit)
def xe (vs:List fF) (ts:List dZ):Bool:=vs.all MZ&&ts.all (Qh vs)&&ur [] (vs.map (·.1))==vs.length&&ur [] (ts.map (·.name))==ts.length
def uH (vs:List fF) (op:Int) (u nm:ByteArray):Int×nS:=
 if op=1 then match iR vs nm with
  |none=>(11,zT)
  |some d=>(0,oA d)
 else if(jI u).1=0 then(0,oA (iu u))else(14,zT)
def xh (ts:List fF) (nm:ByteArray) (key:nS):Int×nS:=
 match iR ts nm with
 |none=>(11,zT)
 |some d=>if key.truth then(13,zT)else if key.jP=eM then(0,oA d)else(14,zT)
def jW (a b r:nS):Int×nS:=if a.truth||b.truth then(13,zT)else if a.jP=b.jP then(0,r)else(14,zT)
def addD (a b:List Int):List Int:=(aav 6).map fun i=>a.getD i 0+b.getD i 0
def subD (a b:List Int):List Int:=(aav 6).map fun i=>a.getD i 0 - b.getD i 0
def mo (div:Bool) (a b:List Int):Int×List Int:=
 if dN a&&dN b then
  (if dN (if div then subD a b else addD a b)then(0,if div then subD a b else addD a b)else(3,eM))
 else(1,eM)
def xq (op:Int) (a b:nS):Int×nS:=
 if a.truth||b.truth then(13,zT)else if(mo (op==9) a.jP b.jP).1=0 then(0,oA (mo (op==9) a.jP b.jP).2)else(14,zT)
def rE (args:List nS):Int×nS:=if args.any fun t=> !t.truth then(13,zT)else(0,MX)
def jK (ts:List fF) (op:Int) (nm:ByteArray) (args:List nS):Int×nS:=
 if op=2 then xh ts nm (args.getD 0 zT)
 else if op=6∨op=7∨op=10∨op=11 then jW (args.getD 0 zT) (args.getD 1 zT) (args.getD 0 zT)
 else if op=12∨op=13 then jW (args.getD 0 zT) (args.getD 1 zT) MX
 else if op=8∨op=9 then xq op (args.getD 0 zT) (args.getD 1 zT)
 else if op=5 then(if(args.getD 0 zT).truth then jW (args.getD 1 zT) (args.getD 2 zT) (args.getD 1 zT)else(13,zT))
 else rE args
mutual
def xw (vs ts:List fF):cw→Int×nS
 | .mk op n u nm l=>match l with
  |[]=>uH vs op u nm
  |x :: r=>match AJ vs ts (x :: r)with
   | .inl e=>(e,zT)
   | .inr args=>jK ts op nm args
def AJ (vs ts:List fF):List cw→Int ⊕ List nS
 |[]=> .inr []
 |x :: l=>match xw vs ts x with
  |(e,t)=>if e=0 then(match AJ vs ts l with
   | .inl e=> .inl e
   | .inr args=> .inr (t :: args))else .inl e
end
def p_ (x:cw):Bool:=dK (fun y=>y.op==3) x
def jf (vs:List fF) (tabs:List dZ) (x:cw):Int×nS:=
 if fB x=false∨p_ x=true then(2,zT)else if xe vs tabs then xw vs (jh tabs) x else(1,zT)
section
variable (X:cw→Int×cw) (fs:List cL) (tabs:List dZ)
def rW (vs:List fF) (x:cw):Int×List Int:=
 if(X x).1=0 then
  (if(jf vs tabs (X x).2).1=0∧(jf vs tabs (X x).2).2.truth=true then 13 else(jf vs tabs (X x).2).1,(jf vs tabs (X x).2).2.jP)
 else((X x).1,eM)
def M0 (vs:List fF) (u:ByteArray) (y:cw):Int:=
 if(rW X tabs vs y).1=0∧¬(rW X tabs vs y).2=iu u then 14 else(rW X tabs vs y).1
def jX (vs:List fF):List eX→List cw→Int
 |p :: ps,y :: l=>if M0 X tabs vs p.unit y=0 then jX vs ps l else M0 X tabs vs p.unit y
 |_,_=>0
mutual
def oP (vs:List fF):cw→Int
 | .mk op n u nm l=>
  if op=3∧¬jX X tabs vs ((fs[(findF fs nm).toNat]?).elim [] (·.params)) l=0 then jX X tabs vs ((fs[(findF fs nm).toNat]?).elim [] (·.params)) l
  else lC vs l
def lC (vs:List fF):List cw→Int
 |[]=>0
 |y :: l=>if oP vs y=0 then lC vs l else oP vs y
end
def jg (vs:List fF) (x:cw):Int×List Int:=
 if ¬(X x).1=0 then((X x).1,eM)else if ¬oP X fs tabs vs x=0 then(oP X fs tabs vs x,eM)else rW X tabs vs x
def G3 (f:cL):List fF:=f.params.map fun p=>(p.name,iu p.unit)
def nT:List cL→Int
 |[]=>0
 |f :: l=>if(jg X fs tabs (G3 f) f.body).1=0 then nT l else(jg X fs tabs (G3 f) f.body).1
def AK (vs:List fF) (c:fD):Int:=
 if(jg X fs tabs vs c.kY).1=0∧¬(jg X fs tabs vs c.kY).2=iu c.unit then 14 else(jg X fs tabs vs c.kY).1
def h_ (vs:List fF):List fD→Int
 |[]=>0
 |c :: l=>if AK X fs tabs vs c=0 then h_ vs l else AK X fs tabs vs c
end
def mz (s:cK):List fF:=s.inputs.map (fun x=>(x.name,iu x.unit))++s.cells.map fun x=>(x.name,iu x.unit)
mutual
def J4 (w:ByteArray→Option Int):cw→Int
 | .mk op n u nm l=>wL w (if op=0∨op=2 then 1 else if op=1 then(w nm).getD 1 else 0) l
def wL (w:ByteArray→Option Int) (out:Int):List cw→Int
 |[]=>out
 |y :: l=>wL w (min (out+J4 w y) 101) l
end
def Dq (X:cw→Int×cw) (cells:List fD) (w:ByteArray→Option Int):List Nat→Bool
 |[]=>false
 |i :: l=>match cells[i]? with
  |none=>false
  |some c=>decide (100<J4 w (X c.kY).2)||Dq X cells (fun nm=>if nm=c.name then some (J4 w (X c.kY).2)else w nm) l
def G4 (X:cw→Int×cw) (o:Int×List Nat) (s:cK):Int:=
 if fV s=false then 2
 else if ¬gU s.funcs=0 then gU s.funcs
 else if ¬nT X s.funcs s.tables s.funcs=0 then nT X s.funcs s.tables s.funcs
 else if ¬h_ X s.funcs s.tables (mz s) s.cells=0 then h_ X s.funcs s.tables (mz s) s.cells
 else if ¬o.1=0 then o.1
 else if Dq X s.cells (fun _=>none) o.2 then 6 else 0
noncomputable def ia (s:cK):Int:=G4 (gy s.funcs (rU s.funcs)) (jG s) s
theorem xz {s:cK} (h:ia s=0):fV s=true∧gU s.funcs=0∧∃ g,jU s=some g∧Kn.jF g=some (jG s).2:=by
 unfold ia G4 at h;split at h
 (·cases h);next h1=>
 split at h
 (·(next h2=>exact absurd h h2));next h2=>
 split at h
 (·(next h3=>exact absurd h h3));split at h
 (·(next h4=>exact absurd h h4));split at h
 (·(next h5=>exact absurd h h5));next h5=>
 have h5:(jG s).1=0:=Classical.not_not.1 h5;refine⟨by simpa using h1,Classical.not_not.1 h2,?_⟩;unfold jG at h5 ⊢;cases hg:jU s with
 |none=>rw[hg]at h5;cases h5
 |some g=>
  rw[hg]at h5;dsimp only at h5 ⊢;cases ho:Kn.jF g with
  |none=>rw[ho]at h5;cases h5
  |some l=>exact⟨g,rfl,by rw[ho]⟩
theorem Qi {fs:List cL} {G G':Nat→dh} (h:∀ i,i<fs.length→G i=G' i) (x:cw):gy fs G x=gy fs G' x:=by
 unfold gy;by_cases hu:dK (j7 fs) x=true
 (·rw[if_pos hu,if_pos hu]);rw[if_neg hu,if_neg hu,rz _ x aac fun j hj=>h j (sX _ x aac (by simpa using hu) j hj)]
end
end Ck
namespace Go.Proofs.YtfppbjfnllhgcaaGreat
section
open Go Go.RowKit Bg Go.Proofs Sh Kb Ck
theorem cN.row_ {w:World} {g:Nat} {t:TypeId} {old:List Value} (h:cN w g t old) (cs:List Value):cN (w.setRow g cs.toArray) g t cs:=by
 unfold cN World.setRow at*;show(w.heap.modify g _)[g]? =_;rw[Array.getElem?_modify,if_pos rfl,h];rfl
theorem xC (w:World) (g:Nat) (cs:Array Value):w.grownBy (w.setRow g cs) (some g):=
 ⟨rfl,rfl,rfl,by unfold World.setRow;show _≤(w.heap.modify g _).size;rw[Array.size_modify];exact aaB _,fun i hi hne=>by
  unfold World.setRow;show(w.heap.modify g _)[i]? =_;rw[Array.getElem?_modify,if_neg (fun e=>hne (by rw[e]))]⟩
theorem cQ {P:Program} {ops:Array Oper} {rest:List Oper} {o:Oper} {a:Act} {w:World} {Q:Exit→Act→World→Prop} (hgd:o.guard=none) (ty:TypeId) (x y:Operand) (ho:o.op= .store ty x y)
 (g:Nat) (cells:List Value) (hx:a.eval x= .pointer (bY g 0)) (hy:a.eval y= .agg cells.toArray)
 (t:TypeId) {old:List Value} (hg:cN w g t old) (hi:(P.info? ty).map (·.size)=some cells.length) (hold:old.length=cells.length) (h1:cells.all (·.oneCell')=true)
 (h:∀ w',Hid (cN w' g t cells)→w.grownBy w' (some g)→wpList P ops Q rest (a.put o.dst undef) w'):wpList P ops Q (o :: rest) a w:=
 wpList_store_row hgd ty x y ho g cells.toArray hx hy t old.toArray hg aX (by simpa using hold) aF (h _ (aa (cN.row_ hg cells)) (xC _ _ _))
theorem cO {P:Program} {fn:Func} {p q:Tmp} {ty:TypeId} (h:fn.results=#[.cell p ty,.tmp q]) (tmps:Array Value) (w:World) (g:Nat) (t:TypeId) (cs:List Value) (d:TypeDesc) (v:Value) (hp:tmps.getD p undef= .pointer (some ⟨g,0,none⟩)) (hv:tmps.getD q undef=v) (hg:cN w g t cs) (hu:P.underlying ty=some d) (hd:(match d with| .struct _| .array _ _=>true|_=>false)=true) (hi:(P.info? ty).map (·.size)=some cs.length):(results fn tmps).run P w= .ok (.tuple #[.agg cs.toArray,v]) w:=by
 have hp':tmps[p]?.getD undef= .pointer (bY g 0):=(by simpa using hp);have hv':tmps[q]?.getD undef=v:=(by simpa using hv);simp[results,h,hp',hv',asAddr,run_loadVar_row w g t ty cs.toArray (0,0) d hg hu hd aX]
def ic (d:List Int):List Value:=[bU (d.getD 0 0),bU (d.getD 1 0),bU (d.getD 2 0),bU (d.getD 3 0),bU (d.getD 4 0),bU (d.getD 5 0)]
theorem six {d:List Int} (h:d.length=6):∃ d0 d1 d2 d3 d4 d5,d=[d0,d1,d2,d3,d4,d5]:=by
 match d,h with
 |[d0,d1,d2,d3,d4,d5],_=>exact⟨d0,d1,d2,d3,d4,d5,rfl⟩
theorem pR {d0 d1 d2 d3 d4 d5:Int} (h:dN [d0,d1,d2,d3,d4,d5]=true):(-9≤d0∧d0≤9)∧(-9≤d1∧d1≤9)∧(-9≤d2∧d2≤9)∧(-9≤d3∧d3≤9)∧(-9≤d4∧d4≤9)∧(-9≤d5∧d5≤9):=by
 unfold dN at h;simp at h;omega
def Ui (g:Nat) (lb:Array Value) (f:Nat→Int) (w:World):Prop:=∀ (W:World) (k:Nat),k<6→Below w w W→Calls prog g (#[bU (k:Int)]++lb) W fun e W'=>e= .returned (bU (f k))∧∃ n,W'=W.drewN n
theorem M3:∀ args w,(callFunc 315 args).run prog w= .ok (.enter 315 args) w:=enters_of func315 ah rfl
theorem M4:∀ args w,(callFunc 316 args).run prog w= .ok (.enter 316 args) w:=enters_of func316 ah rfl
theorem Uj (a0 a1 a2 a3 a4 a5 b0 b1 b2 b3 b4 b5:Int) (p q:Nat) (w:World) (ha:cN w p 91 [bU a0,bU a1,bU a2,bU a3,bU a4,bU a5]) (hb:cN w q 91 [bU b0,bU b1,bU b2,bU b3,bU b4,bU b5])
 (h1:dN [a0,a1,a2,a3,a4,a5]=true) (h2:dN [b0,b1,b2,b3,b4,b5]=true):Ui 315 #[.pointer (bY p 0),.pointer (bY q 0)] (fun k=>[a0,a1,a2,a3,a4,a5].getD k 0+[b0,b1,b2,b3,b4,b5].getD k 0) w:=fun W k hk hB=>by
 have hb1:=pR h1
 have hb2:=pR h2
 have y:=(ha.bZ hB ha.lt).cell
 have z:=(hb.bZ hB hb.lt).cell
 clear ha hb h1 h2
 have hk2:k=0∨k=1∨k=2∨k=3∨k=4∨k=5:=by omega
 rcases hk2 with rfl|rfl|rfl|rfl|rfl|rfl
 all_goals
  go_enter func315,ntmps315
  go_wp2_with fail
  go_quiet (fail)
  go_wp2_with fail
  go_ret
  exact⟨rfl,nq,rfl⟩
theorem Uk (a0 a1 a2 a3 a4 a5 b0 b1 b2 b3 b4 b5:Int) (p q:Nat) (w:World) (ha:cN w p 91 [bU a0,bU a1,bU a2,bU a3,bU a4,bU a5]) (hb:cN w q 91 [bU b0,bU b1,bU b2,bU b3,bU b4,bU b5])
 (h1:dN [a0,a1,a2,a3,a4,a5]=true) (h2:dN [b0,b1,b2,b3,b4,b5]=true):Ui 316 #[.pointer (bY p 0),.pointer (bY q 0)] (fun k=>[a0,a1,a2,a3,a4,a5].getD k 0 - [b0,b1,b2,b3,b4,b5].getD k 0) w:=fun W k hk hB=>by
 have hb1:=pR h1
 have hb2:=pR h2
 have y:=(ha.bZ hB ha.lt).cell
 have z:=(hb.bZ hB hb.lt).cell
 clear ha hb h1 h2
 have hk2:k=0∨k=1∨k=2∨k=3∨k=4∨k=5:=by omega
 rcases hk2 with rfl|rfl|rfl|rfl|rfl|rfl
 all_goals
  go_enter func316,ntmps316
  go_wp2_with fail
  go_quiet (fail)
  go_wp2_with fail
  go_ret
  exact⟨rfl,nq,rfl⟩
def tA (r:Int×List Int) (w:World) (e:Ending) (w':World):Prop:=e= .returned (.tuple #[.agg (ic r.2).toArray,bU r.1])∧Below w w w'
def YM (f:Nat→Int):List Int:=[f 0,f 1,f 2,f 3,f 4,f 5]
def Fp (f:Nat→Int):Int×List Int:=if dN (YM f)then(0,YM f)else(3,eM)
def XA (f:Nat→Int) (k:Nat):List Value:=(aav 6).map fun i=> bU (if i<k then f i else 0)
theorem Ul {f:Nat→Int} {k:Nat} (h:k<6):(XA f k).set k (bU (f k))=XA f (k+1):=by
 (have:k=0∨k=1∨k=2∨k=3∨k=4∨k=5:=by omega);rcases this with rfl|rfl|rfl|rfl|rfl|rfl<;>rfl
theorem cC {B:Nat} {w0 w w':World} {g:Nat} (h:Below B w0 w) (k:w.grownBy w' (some g)) (hB:B≤w0.heap.size) (hg:B≤g):Below B w0 w':=h.grown k (aaC hB h.size) fun j e=>by cases e;exact hg
theorem Dr (w:World) (c0 c1:List Value) (t0 t1:TypeId):∃ W,((w.alloc (.cells c0.toArray t0)).alloc (.cells c1.toArray t1))=W∧Hid (cN W w t0 c0)∧Hid (cN W (w+1) t1 c1)∧Hid (Below w w W):=by
 have k0:cN (w.alloc (.cells c0.toArray t0)) w t0 c0:=heap_alloc_new w _;have k1:cN ((w.alloc (.cells c0.toArray t0)).alloc (.cells c1.toArray t1)) (w+1) t1 c1:=by
  have:=heap_alloc_new (w.alloc (.cells c0.toArray t0)) (.cells c1.toArray t1)
  rwa [aaI]at this
 refine⟨_,rfl,aa (k0.alloc _),aa k1,aa ?_⟩;refine(cS _).alloc ?_ _;rw[aaI];omega
theorem nP (w:World) (c0 c1 c2:List Value) (t0 t1 t2:TypeId):∃ W,(((w.alloc (.cells c0.toArray t0)).alloc (.cells c1.toArray t1)).alloc (.cells c2.toArray t2))=W∧Hid (cN W w t0 c0)∧Hid (cN W (w+1) t1 c1)∧Hid (cN W (w+1+1) t2 c2)∧Hid (Below w w W):=by
 obtain⟨W,rfl,k0,k1,kb⟩:=Dr w c0 c1 t0 t1;have k2:=heap_alloc_new ((w.alloc (.cells c0.toArray t0)).alloc (.cells c1.toArray t1)) (.cells c2.toArray t2);rw[aaI,aaI]at k2;exact⟨_,rfl,aa (k0.o.alloc _),aa (k1.o.alloc _),aa k2,aa (kb.o.alloc kb.o.size _)⟩
theorem Um (w:World) (c0 c1 c2 c3:List Value) (t0 t1 t2 t3:TypeId):∃ W,((((w.alloc (.cells c0.toArray t0)).alloc (.cells c1.toArray t1)).alloc (.cells c2.toArray t2)).alloc (.cells c3.toArray t3))=W∧Hid (cN W w t0 c0)∧Hid (cN W (w+1) t1 c1)∧Hid (cN W (w+1+1) t2 c2)∧Hid (cN W (w+1+1+1) t3 c3)∧Hid (Below w w W):=by
 obtain⟨W,rfl,k0,k1,k2,kb⟩:=nP w c0 c1 c2 t0 t1 t2;have k3:=heap_alloc_new (((w.alloc (.cells c0.toArray t0)).alloc (.cells c1.toArray t1)).alloc (.cells c2.toArray t2)) (.cells c3.toArray t3);rw[aaI,aaI,aaI]at k3;exact⟨_,rfl,aa (k0.o.alloc _),aa (k1.o.alloc _),aa (k2.o.alloc _),aa k3,aa (kb.o.alloc kb.o.size _)⟩
theorem fI:(Tryz.prog.info? 91).map (·.size)=some 6:=by kernel_rfl
theorem J5 (g:Nat) (lb:Array Value) (f:Nat→Int) (w:World) (eg:∀ args w,(callFunc g args).run prog w= .ok (.enter g args) w) (hf:Ui g lb f w):Calls prog 314 #[.func (.func g) #[] lb] w (tA (Fp f) w):=by
 have HF:=aa hf
 generalize hP:tA (Fp f) w=P
 have HP:=aa (show ∀ e w',tA (Fp f) w e w'→P e w' from fun e w' h=>hP▸h)
 clear hP hf
 go_enter func314,ntmps314
 go_upto_region 2 with fail
 obtain⟨w2,hw2,K0,K1,HB⟩:=Dr w [.int .i64 0,.int .i64 0,.int .i64 0,.int .i64 0,.int .i64 0,.int .i64 0] [.int .i64 0,.int .i64 0,.int .i64 0,.int .i64 0,.int .i64 0,.int .i64 0] 91 91
 rw[hw2]
 clear hw2
 replace K1:=aa (show cN w2 (w+1) 91 (XA f 0)from K1.o)
 obtain⟨p,hp⟩:∃ p,p=w.heap.size:=⟨_,rfl⟩
 have uu:=aa hp
 rw[← hp]at K0 K1 ⊢
 clear hp
 go_wp2_with fail
 go_loopw [6] (fun v wr=>∃ k:Nat,k≤6∧v=bU (k:Int)∧Hid (cN wr (p+1) 91 (XA f k))∧Hid (cN wr p 91 [bU 0,bU 0,bU 0,bU 0,bU 0,bU 0])∧Hid (Below w w wr)) (fun v _=>6 - (intOf v).toNat)
 case atStart=>exact⟨0,by omega,rfl,K1,K0,HB⟩
 case round=>
  clear K0 K1 HB;obtain⟨k,hk,rfl,K1,K0,HB⟩:=hrel;by_cases hlt:k<6;case pos=>
   have HC:=aa (HF.o wr k hlt HB.o);have HM:=aa (Ul (f:=f) hlt);have hl:=K1.o.lt;have c1:b_ wr (p+1) k (bU 0):=by
    rw[K1.o.cell];(have:k=0∨k=1∨k=2∨k=3∨k=4∨k=5:=by omega);rcases this with rfl|rfl|rfl|rfl|rfl|rfl<;>rfl
   have f1:wr.frozen? (bY (p+1) k)=false:=K1.o.frozen k;generalize f k=y at HC HM;go_wp2_with (refine HC.o.mono ?_;rintro e w3 ⟨rfl,n3,rfl⟩);go_roundw;exact⟨k+1,by omega,rfl,aa (by have:=(K1.o.drewN n3).eB k (bU y);rwa [HM.o]at this),aa ((aae _ _ _ _ (by show p≠p+1;omega)).trans (K0.o.drewN n3)),aa ((below_drewN HB.o n3).setCell (p:=bY (p+1) k) (by show w.heap.size≤p+1;have:=uu.o;omega) _)⟩;simp[intOf];omega
  case neg=>
   obtain rfl:k=6:=by omega
   replace K1:=aa (show cN wr (p+1) 91 [bU (f 0),bU (f 1),bU (f 2),bU (f 3),bU (f 4),bU (f 5)]from K1.o)
   have HR:Hid (Fp f=if dN [f 0,f 1,f 2,f 3,f 4,f 5]then(0,[f 0,f 1,f 2,f 3,f 4,f 5])else(3,eM)):=aa rfl
   generalize Fp f=r at HR HP
   generalize f 0=y0 at K1 HR
   generalize f 1=y1 at K1 HR
   generalize f 2=y2 at K1 HR
   generalize f 3=y3 at K1 HR
   generalize f 4=y4 at K1 HR
   generalize f 5=y5 at K1 HR
   have HC:=aa (fun W=>mK y0 y1 y2 y3 y4 y5 W)
   have x1:=K1.o.cell
   cases hd:dN [y0,y1,y2,y3,y4,y5]
   case false=>
    have HE:=aa (show r=(3,eM) by rw[HR.o,hd];rfl);rw[hd]at HC;clear hd hlt hk;go_wp2_with (first|(go_at_call 140;refine(HC.o _).mono ?_;rintro e w3 ⟨rfl,hb3⟩;have K3:=aa (K0.o.bZ hb3 K0.o.lt);have eF:=aa (HB.o.trans (hb3.mono HB.o.size));clear hb3 x1)|(refine cQ rfl _ _ _ rfl _ _ rfl rfl _ K3.o fI rfl rfl ?_;intro w5 K5 gp));exact bodyPost_ret (cO rfl _ _ _ 91 _ _ _ rfl rfl K5.o underlying91 rfl fI) rfl (HP.o _ _ ⟨by rw[HE.o];rfl,cC eF.o gp aac aW⟩)
   case true=>
    have HE:=aa (show r=(0,[y0,y1,y2,y3,y4,y5]) by rw[HR.o,hd];rfl);rw[hd]at HC;clear hd hlt hk;go_wp2_with (first|(go_at_call 140;refine(HC.o _).mono ?_;rintro e w3 ⟨rfl,hb3⟩;have K3:=aa (K0.o.bZ hb3 K0.o.lt);have eF:=aa (HB.o.trans (hb3.mono HB.o.size));have x3:=(K1.o.bZ hb3 K1.o.lt).cell;clear hb3 x1)|(refine cQ rfl _ _ _ rfl _ _ rfl rfl _ K3.o fI rfl rfl ?_;intro w5 K5 gp));exact bodyPost_ret (cO rfl _ _ _ 91 _ _ _ rfl rfl K5.o underlying91 rfl fI) rfl (HP.o _ _ ⟨by rw[HE.o];rfl,cC eF.o gp aac aW⟩)
theorem Fq (div:Bool) (a0 a1 a2 a3 a4 a5 b0 b1 b2 b3 b4 b5:Int) (h1:dN [a0,a1,a2,a3,a4,a5]=true) (h2:dN [b0,b1,b2,b3,b4,b5]=true):mo div [a0,a1,a2,a3,a4,a5] [b0,b1,b2,b3,b4,b5]=Fp (if div then fun k=>[a0,a1,a2,a3,a4,a5].getD k 0 - [b0,b1,b2,b3,b4,b5].getD k 0 else fun k=>[a0,a1,a2,a3,a4,a5].getD k 0+[b0,b1,b2,b3,b4,b5].getD k 0):=by
 unfold mo;rw[h1,h2];cases div<;>rfl
theorem XB (a b:List Int) (w:World) (ha:a.length=6) (hb:b.length=6):Calls prog 302 #[.agg (ic a).toArray,.agg (ic b).toArray] w (tA (mo false a b) w):=by
 obtain⟨a0,a1,a2,a3,a4,a5,rfl⟩:=six ha;obtain⟨b0,b1,b2,b3,b4,b5,rfl⟩:=six hb;clear ha hb;have HJ:=aa (Fq false a0 a1 a2 a3 a4 a5 b0 b1 b2 b3 b4 b5);have XC:Hid (dN [a0,a1,a2,a3,a4,a5]=false∨dN [b0,b1,b2,b3,b4,b5]=false→mo false [a0,a1,a2,a3,a4,a5] [b0,b1,b2,b3,b4,b5]=(1,eM)):=aa fun h=>by
  unfold mo;rcases h with h|h<;>simp[h]
 generalize mo false [a0,a1,a2,a3,a4,a5] [b0,b1,b2,b3,b4,b5]=r at HJ XC ⊢;generalize hP:tA r w=P;have HP:=aa (show ∀ e w',tA r w e w'→P e w' from fun e w' h=>hP▸h);clear hP;have HM:=aa (fun p q W (hp:cN W p 91 [.int .i64 a0,.int .i64 a1,.int .i64 a2,.int .i64 a3,.int .i64 a4,.int .i64 a5]) hq h1 h2=>J5 315 #[.pointer (bY p 0),.pointer (bY q 0)] _ W M3 (Uj a0 a1 a2 a3 a4 a5 b0 b1 b2 b3 b4 b5 p q W hp hq h1 h2));have H1:=aa (fun W=>mK a0 a1 a2 a3 a4 a5 W);have H2:=aa (fun W=>mK b0 b1 b2 b3 b4 b5 W);simp only[ic,aal,aak];go_enter func302,ntmps302;go_upto_region 1 with fail;obtain⟨w1,hw1,K0,K1,K2,HB⟩:=nP w [.int .i64 a0,.int .i64 a1,.int .i64 a2,.int .i64 a3,.int .i64 a4,.int .i64 a5] [.int .i64 b0,.int .i64 b1,.int .i64 b2,.int .i64 b3,.int .i64 b4,.int .i64 b5] [.int .i64 0,.int .i64 0,.int .i64 0,.int .i64 0,.int .i64 0,.int .i64 0] 91 91 91;rw[hw1];clear hw1;have x0:=K0.o.cell;cases h1:dN [a0,a1,a2,a3,a4,a5];(case false=>have HE:=aa (XC.o (.inl h1));rw[h1]at H1;clear h1;go_wp2_with (first|(go_at_call 140;with_reducible refine(H1.o _).mono ?_;rintro e w3 ⟨rfl,hb3⟩;have K3:=aa (K2.o.bZ hb3 K2.o.lt);have eF:=aa (HB.o.trans (hb3.mono HB.o.size));clear hb3 x0)|(refine cQ rfl _ _ _ rfl _ _ rfl rfl _ K3.o fI rfl rfl ?_;intro w5 K5 gp));exact bodyPost_ret (cO rfl _ _ _ 91 _ _ _ rfl rfl K5.o underlying91 rfl fI) rfl (HP.o _ _ ⟨by rw[HE.o];rfl,cC eF.o gp aac af⟩));have EI:=aa h1;rw[h1]at H1;clear h1;cases h2:dN [b0,b1,b2,b3,b4,b5];(case false=>have HE:=aa (XC.o (.inr h2));rw[h2]at H2;clear h2;go_wp2_with (first|(go_at_call 140;with_reducible refine(H1.o _).mono ?_;rintro e w3 ⟨rfl,hb3⟩;have K3:=aa (K2.o.bZ hb3 K2.o.lt);have x3:=(K1.o.bZ hb3 K1.o.lt).cell;have eF:=aa (HB.o.trans (hb3.mono HB.o.size));clear hb3 x0)|(go_at_call 140;with_reducible refine(H2.o _).mono ?_;rintro e w4 ⟨rfl,hb4⟩;have K4:=aa (K3.o.bZ hb4 K3.o.lt);have gC:=aa (eF.o.trans (hb4.mono eF.o.size));clear hb4 x3)|(refine cQ rfl _ _ _ rfl _ _ rfl rfl _ K4.o fI rfl rfl ?_;intro w5 K5 gp));exact bodyPost_ret (cO rfl _ _ _ 91 _ _ _ rfl rfl K5.o underlying91 rfl fI) rfl (HP.o _ _ ⟨by rw[HE.o];rfl,cC gC.o gp aac af⟩));have HE:=aa (HJ.o EI.o h2);have HMM:=aa (fun p q W hp hq=>HM.o p q W hp hq EI.o h2);simp only[Bool.false_eq_true,if_false,if_true]at HE;rw[← HE.o]at HMM;rw[h2]at H2;clear h2 HE HJ XC;go_wp2_with (first|(go_at_call 140;with_reducible refine(H1.o _).mono ?_;rintro e w3 ⟨rfl,hb3⟩;have K3:=aa (K2.o.bZ hb3 K2.o.lt);have Qj:=aa (K0.o.bZ hb3 K0.o.lt);have M5:=aa (K1.o.bZ hb3 K1.o.lt);have x3:=M5.o.cell;have eF:=aa (HB.o.trans (hb3.mono HB.o.size));clear hb3 x0)|(go_at_call 140;with_reducible refine(H2.o _).mono ?_;rintro e w4 ⟨rfl,hb4⟩;have K4:=aa (K3.o.bZ hb4 K3.o.lt);have K04:=aa (Qj.o.bZ hb4 Qj.o.lt);have K14:=aa (M5.o.bZ hb4 M5.o.lt);have gC:=aa (eF.o.trans (hb4.mono eF.o.size));clear hb4 x3)|(go_at_call 314;refine(HMM.o _ _ _ K04.o K14.o).mono ?_;rintro e w6 ⟨rfl,eO⟩;have K6:=aa (K4.o.bZ eO K4.o.lt);have eA:=aa (gC.o.trans (eO.mono gC.o.size));clear eO)|(refine cQ rfl _ _ _ rfl _ _ rfl rfl _ K6.o fI rfl rfl ?_;intro w5 K5 gp));exact bodyPost_ret (cO rfl _ _ _ 91 _ _ _ rfl rfl K5.o underlying91 rfl fI) rfl (HP.o _ _ ⟨rfl,cC eA.o gp aac af⟩)
theorem XD (a b:List Int) (w:World) (ha:a.length=6) (hb:b.length=6):Calls prog 303 #[.agg (ic a).toArray,.agg (ic b).toArray] w (tA (mo true a b) w):=by
 obtain⟨a0,a1,a2,a3,a4,a5,rfl⟩:=six ha;obtain⟨b0,b1,b2,b3,b4,b5,rfl⟩:=six hb;clear ha hb;have HJ:=aa (Fq true a0 a1 a2 a3 a4 a5 b0 b1 b2 b3 b4 b5);have XC:Hid (dN [a0,a1,a2,a3,a4,a5]=false∨dN [b0,b1,b2,b3,b4,b5]=false→mo true [a0,a1,a2,a3,a4,a5] [b0,b1,b2,b3,b4,b5]=(1,eM)):=aa fun h=>by
  unfold mo;rcases h with h|h<;>simp[h]
 generalize mo true [a0,a1,a2,a3,a4,a5] [b0,b1,b2,b3,b4,b5]=r at HJ XC ⊢;generalize hP:tA r w=P;have HP:=aa (show ∀ e w',tA r w e w'→P e w' from fun e w' h=>hP▸h);clear hP;have HM:=aa (fun p q W (hp:cN W p 91 [.int .i64 a0,.int .i64 a1,.int .i64 a2,.int .i64 a3,.int .i64 a4,.int .i64 a5]) hq h1 h2=>J5 316 #[.pointer (bY p 0),.pointer (bY q 0)] _ W M4 (Uk a0 a1 a2 a3 a4 a5 b0 b1 b2 b3 b4 b5 p q W hp hq h1 h2));have H1:=aa (fun W=>mK a0 a1 a2 a3 a4 a5 W);have H2:=aa (fun W=>mK b0 b1 b2 b3 b4 b5 W);simp only[ic,aal,aak];go_enter func303,ntmps303;go_upto_region 1 with fail;obtain⟨w1,hw1,K0,K1,K2,HB⟩:=nP w [.int .i64 a0,.int .i64 a1,.int .i64 a2,.int .i64 a3,.int .i64 a4,.int .i64 a5] [.int .i64 b0,.int .i64 b1,.int .i64 b2,.int .i64 b3,.int .i64 b4,.int .i64 b5] [.int .i64 0,.int .i64 0,.int .i64 0,.int .i64 0,.int .i64 0,.int .i64 0] 91 91 91;rw[hw1];clear hw1;have x0:=K0.o.cell;cases h1:dN [a0,a1,a2,a3,a4,a5];(case false=>have HE:=aa (XC.o (.inl h1));rw[h1]at H1;clear h1;go_wp2_with (first|(go_at_call 140;with_reducible refine(H1.o _).mono ?_;rintro e w3 ⟨rfl,hb3⟩;have K3:=aa (K2.o.bZ hb3 K2.o.lt);have eF:=aa (HB.o.trans (hb3.mono HB.o.size));clear hb3 x0)|(refine cQ rfl _ _ _ rfl _ _ rfl rfl _ K3.o fI rfl rfl ?_;intro w5 K5 gp));exact bodyPost_ret (cO rfl _ _ _ 91 _ _ _ rfl rfl K5.o underlying91 rfl fI) rfl (HP.o _ _ ⟨by rw[HE.o];rfl,cC eF.o gp aac af⟩));have EI:=aa h1;rw[h1]at H1;clear h1;cases h2:dN [b0,b1,b2,b3,b4,b5];(case false=>have HE:=aa (XC.o (.inr h2));rw[h2]at H2;clear h2;go_wp2_with (first|(go_at_call 140;with_reducible refine(H1.o _).mono ?_;rintro e w3 ⟨rfl,hb3⟩;have K3:=aa (K2.o.bZ hb3 K2.o.lt);have x3:=(K1.o.bZ hb3 K1.o.lt).cell;have eF:=aa (HB.o.trans (hb3.mono HB.o.size));clear hb3 x0)|(go_at_call 140;with_reducible refine(H2.o _).mono ?_;rintro e w4 ⟨rfl,hb4⟩;have K4:=aa (K3.o.bZ hb4 K3.o.lt);have gC:=aa (eF.o.trans (hb4.mono eF.o.size));clear hb4 x3)|(refine cQ rfl _ _ _ rfl _ _ rfl rfl _ K4.o fI rfl rfl ?_;intro w5 K5 gp));exact bodyPost_ret (cO rfl _ _ _ 91 _ _ _ rfl rfl K5.o underlying91 rfl fI) rfl (HP.o _ _ ⟨by rw[HE.o];rfl,cC gC.o gp aac af⟩));have HE:=aa (HJ.o EI.o h2);have HMM:=aa (fun p q W hp hq=>HM.o p q W hp hq EI.o h2);simp only[if_true]at HE;rw[← HE.o]at HMM;rw[h2]at H2;clear h2 HE HJ XC;go_wp2_with (first|(go_at_call 140;with_reducible refine(H1.o _).mono ?_;rintro e w3 ⟨rfl,hb3⟩;have K3:=aa (K2.o.bZ hb3 K2.o.lt);have Qj:=aa (K0.o.bZ hb3 K0.o.lt);have M5:=aa (K1.o.bZ hb3 K1.o.lt);have x3:=M5.o.cell;have eF:=aa (HB.o.trans (hb3.mono HB.o.size));clear hb3 x0)|(go_at_call 140;with_reducible refine(H2.o _).mono ?_;rintro e w4 ⟨rfl,hb4⟩;have K4:=aa (K3.o.bZ hb4 K3.o.lt);have K04:=aa (Qj.o.bZ hb4 Qj.o.lt);have K14:=aa (M5.o.bZ hb4 M5.o.lt);have gC:=aa (eF.o.trans (hb4.mono eF.o.size));clear hb4 x3)|(go_at_call 314;refine(HMM.o _ _ _ K04.o K14.o).mono ?_;rintro e w6 ⟨rfl,eO⟩;have K6:=aa (K4.o.bZ eO K4.o.lt);have eA:=aa (gC.o.trans (eO.mono gC.o.size));clear eO)|(refine cQ rfl _ _ _ rfl _ _ rfl rfl _ K6.o fI rfl rfl ?_;intro w5 K5 gp));exact bodyPost_ret (cO rfl _ _ _ 91 _ _ _ rfl rfl K5.o underlying91 rfl fI) rfl (HP.o _ _ ⟨rfl,cC eA.o gp aac af⟩)
end
open Go Go.RowKit Bg Go.Proofs Sh Kb
theorem Ep (w:World) (cs:List Value) (t:TypeId):∃ w1 p,w.alloc (.cells cs.toArray t)=w1∧w.heap.size=p∧Hid (cN w1 p t cs)∧Hid (p+1≤w1.heap.size)∧Hid (Below w w w1)∧Hid (∀ W,Below (p+1) w1 W→Below w w W)∧Hid (p=w.heap.size):=by
 have hb:=(aaf w w).alloc aac (.cells cs.toArray t);have hs:=aaI w (.cells cs.toArray t);exact⟨_,_,rfl,rfl,aa (heap_alloc_new w _),aa af,aa hb,aa fun W h=>hb.trans (h.mono af),aa rfl⟩
theorem ug {w:World} {A:Option Addr} {l:List fD} (h:Sq m_ w Any A l) {k:Nat} (hk:k<l.length):∃ bl o eR yn eT eU B9 ny c9,A=bY bl o∧bl<w.heap.size∧b_ w bl (o+k*7) (bV l[k].name)∧b_ w bl (o+k*7+1) (bV l[k].unit)∧b_ w bl (o+k*7+2) (bU eR)∧b_ w bl (o+k*7+3) (bU yn)∧b_ w bl (o+k*7+4) (bV eT)∧b_ w bl (o+k*7+5) (bV eU)∧b_ w bl (o+k*7+6) (bW B9 ny c9)∧cH w Any [bU eR,bU yn,bV eT,bV eU,bW B9 ny c9] l[k].kY:=by
 obtain⟨bl,o,cs,hA,_,hbl,ey,cM⟩:=h.get hk;obtain⟨es,G5,hie⟩:=ey;obtain⟨eR,yn,eT,eU,B9,c9,yr,oh,hes,_⟩:=cH.parts hie;subst hes;subst G5;exact⟨bl,o,eR,yn,eT,eU,B9,yr.length,c9,hA,hbl,cM 0 _ rfl,cM 1 _ rfl,cM 2 _ rfl,cM 3 _ rfl,cM 4 _ rfl,cM 5 _ rfl,cM 6 _ rfl,hie⟩
end Go.Proofs.YtfppbjfnllhgcaaGreat
namespace Ck
open Go.Proofs.YtfppbjfnllhgcaaGreat Kb Sh Ln
theorem Un {fs:List cL} {G G':Nat→dh} {r:Nat→Nat} (hG:Tq fs G) (hG':Tq fs G') (hr:yz fs r) (hu:∀ f∈fs,dK (j7 fs) f.body=false):∀ m i,r i<m→i<fs.length→G i=G' i:=by
 intro m;induction m with
 |zero=>intro i hi;omega
 |succ m ih=>
  intro i hi hl;have hf:fs[i]? =some fs[i]:=List.getElem?_eq_getElem hl;rw[hG i _ hf,hG' i _ hf];refine rz _ _ aac fun j hj=>?_;have hrj:=hr i _ hf j hj;exact ih j af (sX _ _ aac (hu _ (aan hl)) j hj)
def e0:ByteArray:=bs []
def tB (nm:List UInt8):cw:= .mk 1 0 e0 (bs nm) []
def G6 (n:Int) (u:List UInt8):cw:= .mk 0 n (bs u) e0 []
def vM:List cL:=[⟨bs [102],[⟨bs [120],bs [103,47,74]⟩],.mk 8 0 e0 e0 [tB [120],G6 2 []]⟩,
 ⟨bs [103],[⟨bs [120],bs [103,47,74]⟩],.mk 6 0 e0 e0 [.mk 3 0 e0 (bs [102]) [tB [120]],.mk 2 0 e0 (bs [103,114,105,100]) [G6 0 []]]⟩]
def qc:cK:=⟨bs [109,105,108,108],[],[⟨bs [105,110],bs [74],e0⟩,⟨bs [97,105,114],bs [103],e0⟩],[⟨bs [103,114,105,100],bs [103,47,74],[⟨0,2⟩]⟩],vM,
 [⟨bs [97],e0,G6 3 []⟩,⟨bs [98],bs [103],.mk 8 0 e0 e0 [.mk 3 0 e0 (bs [103]) [G6 1 [103,47,74]],tB [105,110]]⟩,
  ⟨bs [99],bs [103],.mk 6 0 e0 e0 [tB [98],.mk 8 0 e0 e0 [tB [97],tB [97,105,114]]]⟩,⟨bs [100],e0,.mk 6 0 e0 e0 [tB [97],G6 1 []]⟩],[],[],[]⟩
theorem J6:fV qc=true:=by decide+kernel
theorem Uo:Tq vM (oL vM 3):=fun i f h=>by
 match i,h with
 |0,h=>injection h with h;subst h;rfl
 |1,h=>injection h with h;subst h;rfl
 |n+2,h=>cases h
theorem OO:yz vM fun i=>i:=fun i f h j hj=>by
 match i,h with
 |0,h=>
  injection h with h;subst h;(have:fT vM (.mk 8 0 e0 e0 [tB [120],G6 2 []])=[]:=by decide+kernel);have hj:j∈fT vM (.mk 8 0 e0 e0 [tB [120],G6 2 []]):=hj;rw[this]at hj;cases hj
 |1,h=>
  injection h with h;subst h;(have:fT vM (.mk 6 0 e0 e0 [.mk 3 0 e0 (bs [102]) [tB [120]],.mk 2 0 e0 (bs [103,114,105,100]) [G6 0 []]])=[0]:=by decide+kernel);have hj:j∈fT vM (.mk 6 0 e0 e0 [.mk 3 0 e0 (bs [102]) [tB [120]],.mk 2 0 e0 (bs [103,114,105,100]) [G6 0 []]]):=hj;rw[this]at hj;rw[aau.1 hj];exact Nat.zero_lt_one
 |n+2,h=>cases h
theorem Uq:∀ f∈vM,dK (j7 vM) f.body=false∧dK (j8 vM) f.body=false∧dK (iU f.params) f.body=false∧cE f.body≤1000000∧f.params.length≤6:=by decide+kernel
theorem ex_ok:wP vM (oL vM 3) fun i=>i:=⟨Uo,OO,Uq,by decide⟩
theorem ex_X (x:cw):gy vM (rU vM) x=gy vM (oL vM 3) x:=by
 obtain⟨r,h⟩:=Bz ⟨_,_,ex_ok⟩;exact Qi (fun i hi=>Un h.fix Uo OO (fun f hf=>(Uq f hf).1) _ i (Nat.lt_succ_self _) hi) x
theorem Qk:gU vM=0:=by decide+kernel
theorem Ur:∀ c∈qc.cells,(gy vM (oL vM 3) c.kY).1=0:=by decide+kernel
def exG:List (List Nat):=[[],[],[0,1],[0]]
theorem XF:(qc.cells.map fun c=>(gy vM (oL vM 3) c.kY).2).map (Da qc.cells)=exG:=by decide+kernel
theorem Us:jU qc=some exG:=by
 unfold jU Bc;rw[if_pos ⟨J6,Qk,fun c hc=>by
  show(gy vM (rU vM) c.kY).1=0;rw[ex_X];exact Ur c hc⟩]
 show some _=some _;congr 1;have:(qc.cells.map fun c=>(Lh qc.funcs c).2)=qc.cells.map fun c=>(gy vM (oL vM 3) c.kY).2:=List.map_congr_left fun c _=>congrArg (·.2) (ex_X c.kY);rw[this];exact XF
theorem Ut:jG qc=(0,[0,1,2,3]):=by
 (have:Kn.jF exG=some [0,1,2,3]:=by decide+kernel);unfold jG;rw[Us];dsimp only;rw[this]
theorem Ql:G4 (gy vM (oL vM 3)) (0,[0,1,2,3]) qc=0:=by decide+kernel
theorem oQ:ia qc=0:=by
 unfold ia;rw[Ut,show gy qc.funcs (rU qc.funcs)=gy vM (oL vM 3)from funext ex_X];exact Ql
theorem ex_on1:vh qc (bs [98])=[(4,bs [98]),(3,bs [103]),(1,bs [105,110]),(3,bs [102]),(2,bs [103,114,105,100])]:=by decide+kernel
theorem ex_on3:vh qc (bs [100])=[(4,bs [100]),(4,bs [97])]:=by decide+kernel
end Ck
namespace Go.Proofs.YtfppbjfnllhgcaaGreat
section
open Go Go.RowKit Bg Go.Proofs Sh Kb
section
def G7 (w:World):List Obj→World
 |[]=>w
 |o :: l=>G7 (w.alloc o) l
theorem rF (B:Nat):∀ (l:List Obj) (w:World),B≤w.heap.size→Below B w (G7 w l)
 |[],w,_=>aaf _ _
 |o :: l,w,h=>((aaf B w).alloc h o).trans (rF B l _ au)
theorem Fs:∀ (l:List Obj) (w:World) (i:Nat) (o:Obj),l[i]? =some o→(G7 w l).heap[w.heap.size+i]? =some o
 |[],w,i,o,h=>by simp at h
 |p :: l,w,0,o,h=>by
  have e:p=o:=aK;subst e;exact((rF (w+1) l (w.alloc p) ai).block w af).trans (heap_alloc_new w p)
 |p :: l,w,i+1,o,h=>by
  have:=Fs l (w.alloc p) i o aK
  rwa [show(w.alloc p).heap.size+i=w.heap.size+(i+1) by simp;omega]at this
section
variable {α:Type} {R:Rel α} {w:World} {S:Nat→Prop} {g:Nat} {T:TypeId}
theorem Sq.vw {css:List (List Value)} {xs:List α} (h:cN w g T css.flatten) (hl:css.length=xs.length) (hk:∀ cs∈css,cs.length=R.k) (hS:S g) (hr:∀ (j:Nat) cs x,css[j]? =some cs→xs[j]? =some x→R.is w S cs x):Sq R w S (bY g 0) xs:=
 ⟨css,hl,fun _=>⟨g,0,rfl,hS,h.lt,fun j cs hj i v hv=>by rw[Nat.zero_add,h.cell];exact mI hk j i cs v hj hv⟩,hr⟩
theorem Sq.XG {cs:List Value} {x:α} (h:cN w g T cs) (hS:S g) (hr:R.is w S cs x):Sq R w S (bY g 0) [x]:=
 Sq.vw (css:=[cs]) aK rfl (by intro c hc;rw[aau.1 hc];exact R.len hr) hS fun j c y hc hy=>by
  cases j with
  |zero=>simp at hc hy;subst hc hy;exact hr
  |succ j=>simp at hc
theorem Sq.XH {cs ds:List Value} {x y:α} (h:cN w g T (cs++ds)) (hS:S g) (hr:R.is w S cs x) (hq:R.is w S ds y):Sq R w S (bY g 0) [x,y]:=
 Sq.vw (css:=[cs,ds]) aK rfl (by intro c hc;simp at hc;rcases hc with rfl|rfl;exact R.len hr;exact R.len hq) hS fun j c z hc hz=>by
  match j with
  |0=>simp at hc hz;subst hc hz;exact hr
  |1=>simp at hc hz;subst hc hz;exact hq
  |j+2=>simp at hc
theorem rP {op n:Int} {un nm:ByteArray}:cH w S [bU op,bU n,bV un,bV nm,cD] (.mk op n un nm []):=cH.of (A:=none) (c:=0) (args:=[]) Sq.nil
end
theorem oU (n:Int) (u:ByteArray) (w:World):Calls prog 50 #[bU n,bV u] w fun e w'=>e= .returned (.agg #[bU 0,bU n,bV u,bV ⟨#[]⟩,cD])∧Below w w w':=by
 go_enter func50,ntmps50;have hk:cN (w.alloc (.cells #[bU 0,bU n,bV u,bV ⟨#[]⟩,cD] 47)) w 47 [bU 0,bU n,bV u,bV ⟨#[]⟩,cD]:=heap_alloc_new w _;have z:=hk.cell;go_wp2_with fail;exact bodyPost_ret (by simp[results,results50,go_sem,z]) rfl ⟨rfl,cS _⟩
theorem oV (u:ByteArray) (w:World):Calls prog 49 #[bV u] w fun e w'=>e= .returned (.agg #[bU 1,bU 0,bV ⟨#[]⟩,bV u,cD])∧Below w w w':=by
 go_enter func49,ntmps49;have hk:cN (w.alloc (.cells #[bU 1,bU 0,bV ⟨#[]⟩,bV u,cD] 47)) w 47 [bU 1,bU 0,bV ⟨#[]⟩,bV u,cD]:=heap_alloc_new w _;have z:=hk.cell;go_wp2_with fail;exact bodyPost_ret (by simp[results,results49,go_sem,z]) rfl ⟨rfl,cS _⟩
theorem uh {op o1 n1 o2 n2:Int} {u1 m1 u2 m2:ByteArray} {A1 A2:Option Addr} {l1 c1 l2 c2:Nat} {x y:cw} {w:World} {S:Nat→Prop} (hS:∀ b,w.heap.size≤b→S b) (hx:cH w S [bU o1,bU n1,bV u1,bV m1,bW A1 l1 c1] x) (hy:cH w S [bU o2,bU n2,bV u2,bV m2,bW A2 l2 c2] y):Calls prog 48 #[bU op,.agg #[bU o1,bU n1,bV u1,bV m1,bW A1 l1 c1],.agg #[bU o2,bU n2,bV u2,bV m2,bW A2 l2 c2]] w fun e w'=>∃ A c,e= .returned (.agg #[bU op,bU 0,bV ⟨#[]⟩,bV ⟨#[]⟩,bW A 2 c])∧cH w' S [bU op,bU 0,bV ⟨#[]⟩,bV ⟨#[]⟩,bW A 2 c] (.mk op 0 ⟨#[]⟩ ⟨#[]⟩ [x,y])∧Below w w w':=by
 have h4:=Um w [bU o1,bU n1,bV u1,bV m1,bW A1 l1 c1] [bU o2,bU n2,bV u2,bV m2,bW A2 l2 c2] [bU op,bU 0,bV ⟨#[]⟩,bV ⟨#[]⟩,bW (bY (w+1+1+1) 0) 2 2] [bU o1,bU n1,bV u1,bV m1,bW A1 l1 c1,bU o2,bU n2,bV u2,bV m2,bW A2 l2 c2] 47 47 47 47;go_enter func48,ntmps48;go_wp2_with fail;obtain⟨W,hW,k0,k1,k2,k3,kb⟩:=h4;rw[hW];clear hW;have z:=k2.o.cell;have hI:cH W S [bU op,bU 0,bV ⟨#[]⟩,bV ⟨#[]⟩,bW (bY (w+1+1+1) 0) 2 2] (.mk op 0 ⟨#[]⟩ ⟨#[]⟩ [x,y]):=cH.of (args:=[x,y]) (Sq.XH (R:=di) (cs:=[bU o1,bU n1,bV u1,bV m1,bW A1 l1 c1]) (ds:=[bU o2,bU n2,bV u2,bV m2,bW A2 l2 c2]) k3.o (hS _ af) (di.keep hx (cB.cA kb.o)) (di.keep hy (cB.cA kb.o)));exact bodyPost_ret (v:= .agg #[bU op,bU 0,bV ⟨#[]⟩,bV ⟨#[]⟩,bW (bY (w+1+1+1) 0) 2 2]) (by simp[results,results48,go_sem,z]) rfl ⟨_,2,rfl,hI,kb.o⟩
theorem Ds {op o1 n1:Int} {u1 m1 nm:ByteArray} {A1:Option Addr} {l1 c1:Nat} {x:cw} {w:World} {S:Nat→Prop} (hS:∀ b,w.heap.size≤b→S b) (hx:cH w S [bU o1,bU n1,bV u1,bV m1,bW A1 l1 c1] x):Calls prog 51 #[bU op,bV nm,.agg #[bU o1,bU n1,bV u1,bV m1,bW A1 l1 c1]] w fun e w'=>∃ A c,e= .returned (.agg #[bU op,bU 0,bV ⟨#[]⟩,bV nm,bW A 1 c])∧cH w' S [bU op,bU 0,bV ⟨#[]⟩,bV nm,bW A 1 c] (.mk op 0 ⟨#[]⟩ nm [x])∧Below w w w':=by
 have h4:=nP w [bU o1,bU n1,bV u1,bV m1,bW A1 l1 c1] [bU op,bU 0,bV ⟨#[]⟩,bV nm,bW (bY (w+1+1) 0) 1 1] [bU o1,bU n1,bV u1,bV m1,bW A1 l1 c1] 47 47 47;go_enter func51,ntmps51;go_wp2_with fail;obtain⟨W,hW,k0,k1,k2,kb⟩:=h4;rw[hW];clear hW;have z:=k1.o.cell;have hI:cH W S [bU op,bU 0,bV ⟨#[]⟩,bV nm,bW (bY (w+1+1) 0) 1 1] (.mk op 0 ⟨#[]⟩ nm [x]):=cH.of (args:=[x]) (Sq.XG (R:=di) k2.o (hS _ af) (di.keep hx (cB.cA kb.o)));exact bodyPost_ret (v:= .agg #[bU op,bU 0,bV ⟨#[]⟩,bV nm,bW (bY (w+1+1) 0) 1 1]) (by simp[results,results51,go_sem,z]) rfl ⟨_,1,rfl,hI,kb.o⟩
end
end
section
open Go Go.RowKit Go.Maps Go.WideMaps
section
abbrev gZ:=Int×ByteArray
def ki (z:gZ):List Value:=[bU z.1,bV z.2]
def mN (z:gZ):Go.Lit:=Lit.string (keyBytes [Lit.int .i64 z.1,Lit.string z.2.data.toList])
structure gX (z:gZ):Prop where
 wf:(Lit.int .i64 z.1).wf=true
 size:z.2.size≤maxLen
theorem Uu:laidOutB prog=true:=by kernel_rfl
theorem Tryz.rowC:(51:TypeId)<Tryz.prog.types.size:=of_decide_eq_true ah
theorem Tryz.wideC:(match Tryz.prog.underlying 51 with|some (.array _ _)|some (.struct _)=>true|_=>false)=true:=by kernel_rfl
theorem YN:Tryz.prog.keyTypeAt (Tryz.prog.types.size+1) 51=true:=by kernel_rfl
theorem h_:Tryz.prog.cellsOf 51=2:=by kernel_rfl
theorem Uv:Tryz.prog.cellsOf 3=1:=by kernel_rfl
theorem Uw:Tryz.prog.cellsOf 9=1:=by kernel_rfl
theorem Tryz.deep2:Tryz.prog.keyTypeAt 2 51=true:=by kernel_rfl
theorem ou:Keyed prog 51:=Keyed.of_law (deep_law_laid Uu (m:=2) ak Tryz.rowC Tryz.deep2 Tryz.wideC)
theorem nB {z:gZ} (h:gX z):keyOf prog 51 (.agg #[bU z.1,bV z.2])=some (mN z):=by
 have h1:=h.wf;have h2:=h.size;obtain⟨n,hn⟩:∃ n,Tryz.prog.types.size=n+1:=Nat.exists_eq_succ_of_ne_zero (of_decide_eq_true ah);have hf:(Value.agg #[bU z.1,bV z.2]).formed prog 51=true:=(by simp[Value.formed,underlying51,h_]);have hkt:Tryz.prog.keyType 51=true:=YN;unfold keyOf;rw[underlying51];simp only[hf,hkt,Bool.and_self,if_true];rw[hn];simp[Program.keyLits,underlying51,underlying3,underlying9,h_,Uv,Uw,Value.cells,h1,h2,mN]
theorem Dt {z z':gZ} (h:gX z) (h':gX z') (e:mN z=mN z'):z=z':=by
 have h1:=ou.inj (nB h) (e▸nB h');obtain⟨a,b⟩:=z;obtain⟨c,d⟩:=z';injection h1 with h1;have h2:[bU a,bV b]=[bU c,bV d]:=congrArg Array.toList h1;injection h2 with h3 h4;injection h4 with h4 _;injection h3 with _ h3;injection h4 with h4;rw[h3,h4]
theorem G8 (z:gZ):WideAt.IsKeyLit (mN z):=by unfold mN;simp[WideAt.IsKeyLit]
def ij (w:World) (g n:Nat) (f:gZ→Option Value):Prop:=
 ∃ D:DataW Value,w.ownsMap prog 51 kX g n D∧IsMap D∧∀ z:gZ,gX z→Maps.has D (mN z)=(f z).isSome∧(∀ v y,f z=some v→D.atKey (mN z) y= .held v)∧(∀ y,f z=none→D.atKey (mN z) y=y)
section
variable {w w':World} {g n:Nat} {f:gZ→Option Value}
theorem ij.made (w:World):ij (w.alloc (.map #[] 0)) w 0 (fun _=>none):=
 ⟨.map [],World.ownsMap_made w _ _ _,⟨[],rfl⟩,fun k _=>⟨rfl,fun v z h=>(by cases h),fun z _=>rfl⟩⟩
theorem ij.lt (h:ij w g n f):g<w.heap.size:=by
 obtain⟨D,h1,_⟩:=h;exact h1.lt
theorem ij.block (h:ij w g n f) (hb:w'.heap[g]? =w.heap[g]?):ij w' g n f:=by
 obtain⟨D,⟨es,clock,hbk,F,hs,hD⟩,h2,h3⟩:=h;exact⟨D,⟨es,clock,hb.trans hbk,F,hs,hD⟩,h2,h3⟩
theorem ij.bZ {B:Nat} (h:ij w g n f) (hb:Below B w w') (hg:g<B):ij w' g n f:=h.block (hb.block g hg)
theorem ij.alloc (h:ij w g n f) (o:Obj):ij (w.alloc o) g n f:=h.bZ (cS _) h.lt
theorem ij.drewN (h:ij w g n f) (k:Nat):ij (w.drewN k) g n f:=h
theorem ij.drew (h:ij w g n f):ij w.drew g n f:=h
theorem ij.cF {p:Addr} (h:ij w g n f) (hp:g≠p.block) (u:Value):ij (w.setCell p u) g n f:=h.block (aae w p u g hp)
theorem ij.mono {m:Nat} (h:ij w g n f) (hm:n≤m):ij w g m f:=by
 obtain⟨D,h1,h2⟩:=h;exact⟨D,h1.mono hm,h2⟩
theorem ij.look (h:ij w g n f) {t e:TypeId} (ht:Tryz.prog.underlying t=some (.map 51 e)) {y:Value} (hy:(zeroValue e).run prog w= .ok y w) {z:gZ} (hz:gX z):(Instr.lookup t (.map (some g)) (.agg #[bU z.1,bV z.2]) false).run prog w= .ok ((f z).getD y) w:=by
 obtain⟨D,h1,h2,h3⟩:=h;obtain⟨p1,p2,p3⟩:=h3 z hz;obtain⟨v,ps,hr,hv⟩:=h1.lookup ou ht hy (R:=kX) (zd:= .held y) (zp:=[]) rfl (nB hz);rw[hr];simp only[kX,Option.some.injEq,Prod.mk.injEq]at hv;obtain⟨hv,_⟩:=hv;cases hc:f z with
 |some u=>exact DataW.held.inj (hv.trans (p2 _ _ hc))▸rfl
 |none=>exact DataW.held.inj (hv.trans (p3 _ hc))▸rfl
end
end
end
open Go Go.RowKit Bg Go.Proofs Sh Kb
def dI:Rel (Int×ByteArray):=mg 2 (fun z=>[bU z.1,bV z.2]) (fun _=>rfl) (fun x v hv=>by simp at hv;rcases hv with rfl|rfl<;>rfl)
theorem BC (A:Option Addr) (c:Nat) (l:List (Int×ByteArray)) (k:Int) (nm:ByteArray) (w:World) (h:Sq dI w Any A l) (hl:l.length≤100000000):Calls prog 16 #[bW A l c,bU k,bV nm] w fun e w'=>e= .returned (.bool (l.any fun z=>z.1==k&&z.2==nm))∧Below w w w':=by
 obtain⟨n,hn⟩:∃ n,n=l.length:=⟨_,rfl⟩;have HN:=aa hn;rw[← hn]at hl ⊢;have H1:=aa h;clear h hn;obtain⟨b0,hb0⟩:∃ b,b=l.any fun z=>z.1==k&&z.2==nm:=⟨_,rfl⟩;have iD:=aa hb0;rw[← hb0];clear hb0;go_enter func16,ntmps16;go_wp2;go_loopw [7] (fun v wr=>∃ i:Nat,i≤n∧v=bU (i:Int)∧Hid ((l.take i).any (fun z=>z.1==k&&z.2==nm)=false)∧Hid (Below w w wr)) (fun v _=>n - (intOf v).toNat);(case atStart=>exact⟨0,by omega,rfl,aa rfl,aa (aaf _ _)⟩);obtain⟨i,hi,rfl,HF,HB⟩:=hrel;by_cases hlt:i<n;case pos=>
  (have hil:i<l.length:=by have:=HN.o;omega);obtain⟨b,o,cs,hA,_,_,hcs,cM⟩:=(H1.o.bZ HB.o).get hil;subst hA;have hcs:cs=[bU l[i].1,bV l[i].2]:=hcs;subst hcs;(have c0:b_ wr b (o+i*2) (bU l[i].1):=by have:=cM 0 _ rfl;rwa [show o+i*dI.k+0=o+i*2 by rfl]at this);have c1:b_ wr b (o+i*2+1) (bV l[i].2):=cM 1 _ rfl;have HT:=aa (show(l.take (i+1)).any (fun z=>z.1==k&&z.2==nm)=((l.take i).any (fun z=>z.1==k&&z.2==nm)||(l[i].1==k&&l[i].2==nm)) by rw[aaz hil,List.any_append];simp);have HM:=aa (aan hil);generalize l[i]=x at c0 c1 HT HM;clear cM;obtain⟨x1,x2⟩:=x;dsimp only at c0 c1;have HT:=aa (show(l.take (i+1)).any (fun z=>z.1==k&&z.2==nm)=(x1==k&&x2==nm) by have:=HT.o;rw[HF.o,Bool.false_or]at this;exact this);by_cases h1:x1=k;(case neg=>have z1:(x1==k)=false:=aF;go_wp2;go_roundw;exact⟨i+1,by omega,rfl,aa (by rw[HT.o,z1];rfl),HB⟩;simp[intOf];omega);have z1:(x1==k)=true:=aF;by_cases h2:x2=nm;case neg=>
   have z2:(x2.toList==nm.toList)=false:=by
    rw[Bool.eq_false_iff];intro h;have:=eq_of_beq h;rw[Lib.toList_data,Lib.toList_data]at this;exact h2 (ByteArray.ext (Array.toList_inj.1 this))
   have z3:(x2==nm)=false:=(by rw[beq_eq_false_iff_ne];exact h2);go_wp2;go_roundw;exact⟨i+1,by omega,rfl,aa (by rw[HT.o,z3,Bool.and_false]),HB⟩;simp[intOf];omega
  have HE:=aa (show b0=true by
   rw[iD.o,List.any_eq_true];exact⟨_,HM.o,by subst h1 h2;rw[beq_self_eq_true,beq_self_eq_true];rfl⟩)
  subst h2;have z2:(x2.toList==x2.toList)=true:=ai;go_wp2;go_ret;exact⟨by rw[HE.o];rfl,HB.o⟩
 (obtain rfl:i=n:=by omega);have HE:=aa (show b0=false by rw[iD.o, ← HF.o,List.take_of_length_le aC]);go_wp2;go_ret;exact⟨by rw[HE.o];rfl,HB.o⟩
end Go.Proofs.YtfppbjfnllhgcaaGreat
