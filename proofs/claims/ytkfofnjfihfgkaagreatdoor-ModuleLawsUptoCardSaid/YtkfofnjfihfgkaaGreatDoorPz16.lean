/- Parts of the proof, packed (Same0 to Num); each theorem bears its own conditions. -/
import Derived.Lib.ItoaLen
import Derived.Lib.AppendIntMem
import Derived.Test.YtkfofnjfihfgkaaGreatDoorPz15
set_option linter.unusedVariables false
set_option linter.unusedSimpArgs false
set_option maxRecDepth 100000
set_option maxHeartbeats 8000000
open Go.Proofs.Tryz
open Go.Lib renaming hid → aa
theorem aag {p:Prop} (h:p:=by simp only[List.length_cons];omega):p:=h
namespace Go.Proofs.YtkfofnjfihfgkaaGreatDoor
open Go Go.RowKit Go.Proofs Sh Kb
section
theorem EU {w w':World} (h:w.grownBy w' none):Below w w w':=⟨h.os,h.tape,h.output,h.size,fun b hb=>h.block b hb aj⟩
theorem FR:Clo maxLen 84 #[] (fun _=>False) none (fun _ _=>True) (fun _ s=>s) (fun _ _=>[]) where
 enters:=enters_of func84 ai rfl
 rd:=fun r h=>by cases h
 keep:=fun _ _ _=>trivial
 lt:=fun _ r h=>by cases h
 call:=fun op s l W hs _=>by
  show Calls prog 84 #[bR op,bV s] W _;go_enter func84,ntmps84;go_wp2_with fail;go_ret;exact⟨rfl,trivial,lp W none⟩
theorem V0:Clo maxLen 50 #[] (fun _=>False) none (fun _ _=>True) (fun _ s=>s) (fun _ _=>[]) where
 enters:=enters_of func50 ai rfl
 rd:=fun r h=>by cases h
 keep:=fun _ _ _=>trivial
 lt:=fun _ r h=>by cases h
 call:=fun op s l W hs _=>by
  show Calls prog 50 #[bR op,bV s] W _;go_enter func50,ntmps50;go_wp2_with fail;go_ret;exact⟨rfl,trivial,lp W none⟩
mutual
theorem KG:∀ x:cD,GJ x→ZE maxLen x
 | .mk op n unit name l,h=>by
  unfold GJ at h;unfold ZE;exact⟨h.2.1,FT l h.2.2⟩
theorem FT:∀ l:List cD,Zw l→RL maxLen l
 |[],_=>by unfold RL;trivial
 |x :: l,h=>by
  unfold Zw at h;unfold RL;exact⟨KG x h.1,FT l h.2⟩
end
def CopyP (x:cD) (w:World) (e:Ending) (w':World):Prop:=∃ (o n:Int) (u m:ByteArray) (A:Option Addr) (l c:Nat),e= .returned (.agg #[bR o,bR n,bV u,bV m,bQ A l c])∧cR w' (fun b=>w.heap.size≤b) [bR o,bR n,bV u,bV m,bQ A l c] x∧Below w w w'
theorem tP {g:Nat} (C:Clo maxLen g #[] (fun _=>False) none (fun _ _=>True) (fun _ s=>s) (fun _ _=>[])) (x:cD) (hz:GJ x) (hn:cU x≤1000000) (cs:List Value) (w:World) (S:Nat→Prop) (h:cR w S cs x):Calls prog 33 #[.agg cs.toArray,.func (.func g) #[] #[]] w (CopyP x w):=by
 refine(su C (fM x) x (Nat.le_refl _) (KG x hz) hn cs S w [] h (fun b _=>by simp) trivial).mono ?_;rintro e w' ⟨cs',rfl,he,_,hg⟩;rw[Qa]at he;obtain⟨op,n,un,nm,A,c,ar,_,hcs,_⟩:=he.parts;subst hcs;exact⟨_,_,_,_,_,_,_,rfl,he,EU hg⟩
end
end Go.Proofs.YtkfofnjfihfgkaaGreatDoor
namespace Sh
open Kb Go.Lib
section
def Bd (n:Nat) (l:List Tok):Prop:=l.length≤n∧∀ t∈l,t.text.size≤1000
theorem Bd.nil:Bd 0 []:=⟨by simp,by simp⟩
theorem Bd.one {t:Tok} (h:t.text.size≤1000):Bd 1 [t]:=⟨by simp,fun x hx=>by rw[List.mem_singleton.1 hx];exact h⟩
theorem Bd.add {n m:Nat} {l k:List Tok} (h:Bd n l) (h':Bd m k):Bd (n+m) (l++k):=
 ⟨by rw[List.length_append];exact Nat.add_le_add h.1 h'.1,fun t ht=>(List.mem_append.1 ht).elim (h.2 t) (h'.2 t)⟩
theorem Bd.cons {n:Nat} {t:Tok} {l:List Tok} (h:t.text.size≤1000) (h':Bd n l):Bd (1+n) (t :: l):=(Bd.one h).add h'
theorem Bd.le {n m:Nat} {l:List Tok} (h:Bd n l) (hm:n≤m):Bd m l:=⟨Nat.le_trans h.1 hm,h.2⟩
theorem Bd.flat {α:Type} {n:Nat} (f:α→List Tok):∀ (xs:List α),(∀ x∈xs,Bd n (f x))→Bd (xs.length*n) (xs.flatMap f)
 |[],_=>by simpa using Bd.nil
 |x :: xs,h=>by
  rw[List.flatMap_cons,List.length_cons,Nat.add_mul,Nat.one_mul,Nat.add_comm];exact(h x aj).add (Bd.flat f xs fun y hy=>h y (by simp[hy]))
theorem Bd.jA {α:Type} {n k m:Nat} {f:α→List Tok} {xs:List α} (h:∀ x∈xs,Bd n (f x)) (hk:xs.length≤k) (hm:k*n≤m):Bd m (xs.flatMap f):=
 (Bd.flat f xs h).le (Nat.le_trans (Nat.mul_le_mul_right n hk) hm)
theorem Bd.ite {n:Nat} {c:Prop} [Decidable c] {l k:List Tok} (h:c→Bd n l) (h':¬c→Bd n k):Bd n (if c then l else k):=by
 split
 (·(next q=>exact h q));(next q=>exact h' q)
theorem BA (l:List UInt8):(bs l).size=l.length:=by simp[bs,ByteArray.size]
theorem FU (s:ByteArray):(dH s).text=s:=by unfold dH jF;split<;>rfl
theorem Ns (l:List UInt8):(cm l).text=bs l:=FU _
theorem dY (l:List UInt8) (h:l.length≤1000):(cm l).text.size≤1000:=by rw[Ns,BA];exact h
theorem oD {s:ByteArray} (h:s.size≤1000):(dH s).text.size≤1000:=by rw[FU];exact h
theorem di {s:ByteArray} (h:cT s=true):s.size≤20:=by
 unfold cT mq at h;have e:s.data.toList.length=s.size:=aj;cases hl:s.data.toList with
 |nil=>rw[hl]at e;simp at e;omega
 |cons c r=>
  rw[hl]at h e;simp at h e;omega
theorem mN {s:ByteArray} (h:fR s=true):s.size=0:=by unfold fR at h;simpa using h
theorem iA {s:ByteArray} (h:cI s=true):s.size≤40:=by
 have e:s.data.toList.length=s.size:=aj;unfold cI iJ at h;cases hl:s.data.toList with
 |nil=>rw[hl]at e;simp at e;omega
 |cons c r=>
  rw[hl]at h e;unfold gI at h;by_cases hle:(c :: r).length≤40
  (·omega);simp only[if_neg hle]at h;simp at h
theorem Nt (n:Int) (h0:-9223372036854775808≤n) (h1:n≤9223372036854775807):(uN n).text.size≤1000:=by
 show(bs (itoa n)).size≤1000;rw[BA];have:=itoa_length_le n h0 h1;omega
theorem nD (n:Int) (h:-2000000000000≤n∧n≤2000000000000):Bd 2 (fK n):=by
 unfold fK;have h1:Bd 1 (if n<0 then[cm [45]]else[]):=Bd.ite (fun _=>Bd.one (dY _ ag)) (fun _=>Bd.nil.le ag);refine h1.add (Bd.one ?_);by_cases hn:n<0
 (·rw[if_pos hn];exact Nt _ af af);rw[if_neg hn];exact Nt _ af af
theorem uD (w:List UInt8) {name unit:ByteArray} (hw:w.length≤1000) (hn:name.size≤1000) (hu:unit.size≤1000):Bd 3 (mD w name unit):=
 Bd.cons (dY w hw) (Bd.cons (oD hn) (Bd.one hu))
theorem oper_bd (op:Int):(Fi op).text.size≤1000:=by
 unfold Fi lF jF
 repeat' split
 all_goals decide
theorem atom_bd {n:Nat} {a:Int×List Tok} (h:Bd n a.2):Bd (n+2) (lG a):=by
 unfold lG;split
 (·exact((Bd.cons ag h).add (Bd.one ag)).le af);exact h.le af
def vL (l:List (Int×List Tok)):Nat:=(l.map fun a=>a.2.length+3).sum
theorem KH:∀ (l:List (Int×List Tok)),(∀ a∈l,∀ t∈a.2,t.text.size≤1000)→Bd (vL l) (Gr l)
 |[],_=>Bd.nil
 |[a],h=>⟨by simp[Gr,vL],fun t ht=>h a aj t ht⟩
 |a :: b :: l,h=>by
  have ih:=KH (b :: l) fun x hx=>h x (by simp[hx]);have h1:Bd a.2.length a.2:=⟨Nat.le_refl _,h a aj⟩;refine(h1.add (Bd.cons (t:=lF [44]) ag ih)).le ?_;simp only[vL,List.map_cons,List.sum_cons];omega
theorem list_bd {l:List (Int×List Tok)} (h:∀ a∈l,∀ t∈a.2,t.text.size≤1000):Bd (vL l+1) (Jj l):=(KH l h).add (Bd.one ag)
theorem nth_bd {l:List (Int×List Tok)} (h:∀ a∈l,∀ t∈a.2,t.text.size≤1000) (k:Nat):Bd ((l.getD k (0,[])).2.length+2) (Ez l k):=by
 unfold Ez;refine atom_bd ⟨Nat.le_refl _,?_⟩;rw[List.getD_eq_getElem?_getD];by_cases hk:k<l.length
 (·rw[List.getElem?_eq_getElem hk];exact h _ (List.getElem_mem hk));rw[List.getElem?_eq_none af];simp
theorem V9:∀ (l:List (Int×List Tok)) (k:Nat),k<l.length→(l.getD k (0,[])).2.length+3≤vL l
 |[],k,h=>by simp at h
 |a :: l,0,_=>by simp[vL]
 |a :: l,k+1,h=>by
  have ih:=V9 l k aO;simp only[vL,List.map_cons,List.sum_cons]at ih ⊢;simpa using Nat.le_trans ih af
theorem sum_two:∀ (l:List (Int×List Tok)),l.length=2→vL l=(l.getD 0 (0,[])).2.length+3+((l.getD 1 (0,[])).2.length+3)
 |[a,b],_=>by simp[vL]
theorem SD:∀ (l:List (Int×List Tok)),l.length=3→vL l=(l.getD 0 (0,[])).2.length+3+((l.getD 1 (0,[])).2.length+3)+((l.getD 2 (0,[])).2.length+3)
 |[a,b,c],_=>by simp[vL];omega
theorem node_bd {op n:Int} {unit name:ByteArray} {l:List (Int×List Tok)} (hk:mA op n unit name l.length=true) (h:∀ a∈l,∀ t∈a.2,t.text.size≤1000):Bd (vL l+5) (tu op n unit name l):=by
 have hL:=list_bd h;(have hw:∀ b:List UInt8,b.length≤1000→(lF b).text.size≤1000:=fun b hb=>by show(bs b).size≤1000;rw[BA];exact hb);(have hn:∀ b:List UInt8,b.length≤1000→(jF (bs b)).text.size≤1000:=fun b hb=>by show(bs b).size≤1000;rw[BA];exact hb);unfold mA at hk;unfold tu;by_cases h0:op=0
 (·rw[if_pos h0]at hk ⊢;simp only[Bool.and_eq_true,decide_eq_true_eq,mz]at hk;obtain⟨⟨⟨⟨q1,q2⟩,q3⟩,q4⟩,q5⟩:=hk;refine(Bd.cons (Nt n af af) (n:=1) (Bd.ite (fun _=>Bd.nil.le ag) fun _=>Bd.one ?_)).le af;show unit.size≤1000;have:=q1.1;omega);rw[if_neg h0]at hk ⊢;split at hk
 (·cases hk);by_cases h1:op=1
 (·rw[if_pos h1]at hk ⊢;simp only[Bool.and_eq_true]at hk;have:=di hk.1;exact(Bd.one (show name.size≤1000 by omega)).le af);rw[if_neg h1]at hk ⊢;by_cases h2:op=2
 (·rw[if_pos h2]at hk ⊢;simp only[Bool.and_eq_true]at hk;have:=di hk.1;exact((Bd.cons (hn _ ag) (Bd.cons (hw _ ag) (Bd.cons (show name.size≤1000 by omega) (Bd.one (hw _ ag))))).add hL).le af);rw[if_neg h2]at hk ⊢;by_cases h3:op=3
 (·rw[if_pos h3]at hk ⊢;simp only[Bool.and_eq_true]at hk;have:=di hk.1.1;exact((Bd.cons (show name.size≤1000 by omega) (Bd.one (hw _ ag))).add hL).le af);rw[if_neg h3]at hk ⊢;have N:=nth_bd h;by_cases h4:op=4
 (·have e:¬op=10∧¬op=11:=af;rw[if_pos h4]at hk;rw[if_neg e.1,if_neg e.2,if_pos h4];simp only[Bool.and_eq_true,beq_iff_eq]at hk;have:=V9 l 0 af;exact(Bd.cons (hn _ ag) (N 0)).le af);rw[if_neg h4]at hk;by_cases h5:op=5
 (·have e:¬op=10∧¬op=11:=af;rw[if_pos h5]at hk;rw[if_neg e.1,if_neg e.2,if_neg h4,if_pos h5];simp only[Bool.and_eq_true,beq_iff_eq]at hk;have:=SD l hk.2;exact(((Bd.cons (hn [105,102] ag) (N 0)).add (Bd.cons (hn [116,104,101,110] ag) (N 1))).add (Bd.cons (hn [101,108,115,101] ag) (N 2))).le af);rw[if_neg h5]at hk;by_cases h10:op=10
 (·rw[if_pos h10];exact((Bd.cons (hn _ ag) (Bd.one (hw _ ag))).add hL).le af);rw[if_neg h10];by_cases h11:op=11
 (·rw[if_pos h11];exact((Bd.cons (hn _ ag) (Bd.one (hw _ ag))).add hL).le af);rw[if_neg h11,if_neg h4,if_neg h5];rw[if_neg (by simp[h10,h11])]at hk;simp only[Bool.and_eq_true,beq_iff_eq]at hk;have:=sum_two l hk.2;exact((N 0).add (Bd.cons (oper_bd op) (N 1))).le af
mutual
theorem QL:∀ x:cD,eF x=true→Bd (8*cU x - 3) (iR x)∧1≤cU x
 | .mk op n unit name l,h=>by
  unfold eF at h;rw[Bool.and_eq_true]at h;obtain⟨k1,k2,k3⟩:=QM l h.2;rw[← k1]at h;unfold iR cU;exact⟨(node_bd h.1 k3).le af,by omega⟩
theorem QM:∀ l:List cD,iK l=true→(vo l).length=l.length∧vL (vo l)≤8*eC l∧∀ a∈vo l,∀ t∈a.2,t.text.size≤1000
 |[],_=>by simp[vo,vL,eC]
 |x :: l,h=>by
  unfold iK at h;rw[Bool.and_eq_true]at h;obtain⟨⟨a1,a2⟩,a3⟩:=QL x h.1;obtain⟨k1,k2,k3⟩:=QM l h.2;unfold vo eC;refine⟨by simp[k1],?_,fun a ha=>?_⟩
  (·simp only[vL,List.map_cons,List.sum_cons]at k2 ⊢;omega);rcases List.mem_cons.1 ha with rfl|ha
  (·exact a2);exact k3 a ha
end
theorem V_ {x:cD} (h:fj x=true):Bd 2000 (B_ x):=by
 unfold fj at h;simp only[Bool.and_eq_true,decide_eq_true_eq]at h;exact((Bd.cons (dY [61] ag) (QL x h.2).1).add (Bd.one (dY [59] ag))).le af
theorem zf {n:Int} (h:dN n=true):-2000000000000≤n∧n≤2000000000000:=by unfold dN at h;simp at h;omega
theorem in_bd {n:Int} (h:Mw n=true):-2000000000000≤n∧n≤2000000000000:=by unfold Mw at h;simp at h;omega
theorem QN:∀ (l:List ym) (o:Option Int),oG o l=true→∀ r∈l,Mw r.key=true∧Mw r.value=true
 |[],_,_=>by simp
 |r :: l,o,h=>by
  unfold oG at h;simp only[Bool.and_eq_true]at h;intro x hx;rcases List.mem_cons.1 hx with rfl|hx
  (·exact⟨h.1.1.1,h.1.1.2⟩);exact QN l _ h.2 x hx
theorem SE {x:eL} (hn:cT x.name=true) (h:(cI x.unit&&fD x)=true):Bd 20 (eo x):=by
 unfold fD at h;simp only[Bool.and_eq_true,decide_eq_true_eq]at h;obtain⟨hu,⟨⟨⟨⟨h1,h2⟩,h3⟩,h4⟩,h5⟩,h6⟩:=h;have a:=di hn;have b:=iA hu;have c:=di h6;exact((((uD [105,109,112,111,114,116] ag af af).add (nD _ (zf h1))).add (Bd.cons (dY [61] ag) (nD x.house af))).add
  (Bd.cons (dY [58] ag) (Bd.cons (oD af) (Bd.one (dY [58] ag))))).add (nD x.version af) |>.add (Bd.one (dY [59] ag)) |>.le af
theorem Wb {x:gR} (hn:cT x.name=true) (h:(cI x.unit&&iQ x)=true):Bd 20 (ek x):=by
 unfold iQ at h;simp only[Bool.and_eq_true,Bool.or_eq_true]at h;have a:=di hn;have b:=iA h.1;refine(((uD [105,110,112,117,116] ag af af).add (m:=1) (Bd.ite (fun _=>Bd.nil.le ag) fun q=>Bd.one (oD ?_))).add (Bd.one (dY [59] ag))).le af;rcases h.2 with e|e
 (·exact absurd e q);have:=di e;omega
theorem port_bd {x:kO} (hn:cT x.name=true) (h:(cI x.unit&&dN x.amount)=true):Bd 20 (iD x):=by
 simp only[Bool.and_eq_true]at h;have a:=di hn;have b:=iA h.1;exact((uD [112,111,114,116] ag af af).add (nD _ (zf h.2))).add (Bd.one (dY [59] ag)) |>.le af
theorem Wc {x:jz} (hn:cT x.name=true) (h:(cI x.unit&&mC x)=true):Bd 20 (storeT x):=by
 simp only[Bool.and_eq_true]at h
 have a:=di hn
 have b:=iA h.1
 refine((uD [115,116,111,114,101] ag af af).add (Bd.cons (dY _ ?_) (Bd.one (dY [59] ag)))).le af
 unfold ruleB
 repeat' split
 all_goals decide
theorem Wd {x:eB} (h:fG x=true):Bd 1000 (eH x):=by
 unfold fG at h;simp only[Bool.and_eq_true,decide_eq_true_eq]at h;obtain⟨⟨⟨hu,hn⟩,hl⟩,hr⟩:=h;have b:=iA hu;have a:x.name.size≤20:=by
  have e:x.name.data.toList.length=x.name.size:=aj;unfold mq at hn;cases hq:x.name.data.toList with
  |nil=>rw[hq]at e;simp at e;omega
  |cons c r=>rw[hq]at hn e;simp at hn e;omega
 have hR:Bd 600 (x.rows.flatMap rowT):=Bd.jA (n:=6) (fun r hr'=>by
  obtain⟨k1,k2⟩:=QN x.rows none hr r hr';exact(((nD _ (in_bd k1)).add (Bd.cons (dY [58] ag) (nD _ (in_bd k2)))).add (Bd.one (dY [59] ag))).le af) hl ag
 exact((uD [116,97,98,108,101] ag af af).add (Bd.cons (dY [123] ag) hR)).add (Bd.one (dY [125] ag)) |>.le af
theorem FV:∀ (l:List mX) (b:Bool),(∀ p∈l,kX p=true)→Bd (3*l.length) (Gs b l)
 |[],_,_=>Bd.nil
 |p :: l,b,h=>by
  have hp:=h p aj;unfold kX at hp;rw[Bool.and_eq_true]at hp;have a:=di hp.1;have c:=iA hp.2;refine(Bd.cons (dY _ ?_) (Bd.cons (oD af) (Bd.cons (show p.unit.size≤1000 by omega) (FV l false fun q hq=>h q (by simp[hq]))))).le aag;cases b<;>decide
theorem func_bd {x:eU} (hn:cT x.name=true) (h:jU x=true):Bd 2100 (gC x):=by
 unfold jU at h;simp only[Bool.and_eq_true,decide_eq_true_eq,List.all_eq_true]at h;obtain⟨hp,⟨_,hl⟩,he⟩:=h;have a:=di hn;exact((Bd.cons (dY [102,117,110,99] ag) (Bd.cons (oD af) (FV x.params true hp))).add (Bd.cons (dY [41] ag) (V_ he))).le af
theorem cell_bd {x:cL} (hn:cT x.name=true) (h:jE x=true):Bd 2100 (eX x):=by
 unfold jE at h;rw[Bool.and_eq_true]at h;have a:=di hn;have b:=iA h.1;exact((uD [99,101,108,108] ag af af).add (V_ h.2)).le af
theorem zg:∀ (l:List ByteArray) (b:Bool),(∀ s∈l,cT s=true)→Bd (2*l.length) (dB b l)
 |[],_,_=>Bd.nil
 |p :: l,b,h=>by
  have a:=di (h p aj);refine((Bd.ite (n:=1) (fun _=>Bd.nil.le ag) fun _=>Bd.one (dY [44] ag)).add (Bd.cons (oD af) (zg l false fun q hq=>h q (by simp[hq])))).le aag
theorem zh:∀ (l m:List ByteArray) (b:Bool),(∀ s∈l,cT s=true)→(∀ s∈m,cT s=true)→Bd (4*l.length) (rO b l m)
 |[],_,_,_,_=>by unfold rO;exact Bd.nil
 |p :: l,[],b,h,h'=>by
  have a:=di (h p aj);exact((Bd.ite (n:=1) (fun _=>Bd.nil.le ag) fun _=>Bd.one (dY [44] ag)).add (Bd.cons (oD af) (zh l [] false (fun q hq=>h q (by simp[hq])) h'))).le aag
 |p :: l,q :: m,b,h,h'=>by
  have a:=di (h p aj);have c:=di (h' q aj);exact((Bd.ite (n:=1) (fun _=>Bd.nil.le ag) fun _=>Bd.one (dY [44] ag)).add (Bd.cons (oD af) (Bd.cons (dY [58] ag) (Bd.cons (oD af) (zh l m false (fun z hz=>h z (by simp[hz])) fun z hz=>h' z (by simp[hz])))))).le aag
theorem iB {l:List ByteArray} {a b:Nat} (h:gy l a b=true):l.length≤b∧∀ s∈l,cT s=true:=by
 unfold gy at h;simp only[Bool.and_eq_true,decide_eq_true_eq,List.all_eq_true]at h;exact⟨h.1.2,h.2⟩
theorem tQ (k:Int):(shapeOf k).word.length≤1000∧(shapeOf k).in1≤100∧(shapeOf k).Zi≤100:=by
 unfold shapeOf
 repeat' split
 all_goals decide
theorem step_bd {x:dV} (h:dO x=true):Bd 700 (stepT x):=by
 unfold dO at h;split at h
 (·cases h);simp only[Bool.and_eq_true]at h;obtain⟨⟨⟨⟨h1,h2⟩,h3⟩,h4⟩,h5⟩:=h;obtain⟨s1,s2,s3⟩:=tQ x.kind;obtain⟨n1,f1⟩:=iB h1;obtain⟨n2,f2⟩:=iB h2;obtain⟨n3,f3⟩:=iB h3;unfold stepT;simp only;have t1:=Bd.cons (dY _ s1) (zg x.inp true f1);have t2:Bd 1 (if 0<x.inp.length∧0<x.o.length then[cm [105,110,116,111]]else if x.kind=5∨x.kind=6 then[cm [116,111]]else if x.kind=7 then[cm [97,115]]else[]):=
  Bd.ite (fun _=>Bd.one (dY _ ag)) fun _=>Bd.ite (fun _=>Bd.one (dY _ ag)) fun _=>Bd.ite (fun _=>Bd.one (dY _ ag)) fun _=>Bd.nil.le ag
 have t3:Bd 400 (if(shapeOf x.kind).cells then rO true x.o x.cells else dB true x.o):=Bd.ite (fun _=>(zh x.o x.cells true f2 f3).le af) fun _=>(zg x.o true f2).le af;have t4:Bd 1 (if x.inp.length=0 then[cm [61]]else[]):=Bd.ite (fun _=>Bd.one (dY _ ag)) fun _=>Bd.nil.le ag;have t5:Bd 1 (if(shapeOf x.kind).name then[dH x.name]else[]):=Bd.ite (fun q=>Bd.one (oD (by rw[if_pos q]at h4;have:=di h4;omega))) fun _=>Bd.nil.le ag;have t6:Bd 2 (if(shapeOf x.kind).wE then fK x.amount else[]):=Bd.ite (fun q=>nD _ (zf (by rw[if_pos q]at h5;exact h5))) fun _=>Bd.nil.le ag;exact((((((t1.add t2).add t3).add t4).add t5).add t6).add (Bd.one (dY [59] ag))).le af
theorem SF {x:cw} (hn:cT x.kind=true) (h:dW x=true):Bd 80000 (fE x):=by
 unfold dW at h;simp only[Bool.and_eq_true,decide_eq_true_eq,List.all_eq_true]at h;have a:=di hn;have hS:Bd 70000 (x.steps.flatMap stepT):=Bd.jA (n:=700) (fun s hs=>step_bd (h.2 s hs)) h.1 ag;exact((Bd.cons (dY [114,101,99,105,112,101] ag) (Bd.cons (oD af) (Bd.cons (dY [123] ag) hS))).add (Bd.one (dY [125] ag))).le af
structure Nu (s:bY):Prop where
 name:cT s.name=true
 imports:∀ x∈s.imports,cT x.name=true∧(cI x.unit&&fD x)=true
 inputs:∀ x∈s.inputs,cT x.name=true∧(cI x.unit&&iQ x)=true
 b9:∀ x∈s.b9,cT x.name=true∧(cI x.unit&&dN x.amount)=true
 stores:∀ x∈s.stores,cT x.name=true∧(cI x.unit&&mC x)=true
 tables:∀ x∈s.tables,cT x.name=true∧fG x=true
 funcs:∀ x∈s.funcs,cT x.name=true∧jU x=true
 cells:∀ x∈s.cells,cT x.name=true∧jE x=true
 bX:∀ x∈s.bX,cT x.kind=true∧dW x=true
 len:(uses s).length+s.bX.length≤100
theorem dm {s:bY} (h:cN s=true):Nu s:=by
 obtain⟨h1,h2,h3,h4⟩:=(jZ s).1 h;obtain⟨k1,k2,_,_⟩:=mK h2;obtain⟨r1,r2,_,_⟩:=mK h4;have key:∀ u∈uses s,cT u.1=true∧u.2=true:=fun u hu=>⟨k2 u hu,List.all_eq_true.1 k1 u hu⟩;have Hg:∀ x∈s.bX,cT x.kind=true∧dW x=true:=fun x hx=>
  have hm:(x.kind,dW x)∈s.bX.map fun x=>(x.kind,dW x):=List.mem_map.2 ⟨x,hx,rfl⟩
  ⟨r2 _ hm,List.all_eq_true.1 r1 _ hm⟩
 refine⟨h1,fun x hx=>key (x.name,cI x.unit&&fD x) ?_,fun x hx=>key (x.name,cI x.unit&&iQ x) ?_,fun x hx=>key (x.name,cI x.unit&&dN x.amount) ?_,fun x hx=>key (x.name,cI x.unit&&mC x) ?_,
  fun x hx=>key (x.name,fG x) ?_,fun x hx=>key (x.name,jU x) ?_,fun x hx=>key (x.name,jE x) ?_,Hg,h3⟩
 all_goals
  simp only[uses,ei,eE,List.mem_append,List.mem_map]
 (·exact .inl (.inl (.inl (.inl ⟨x,hx,rfl⟩))))
 (·exact .inl (.inl (.inl (.inr ⟨x,hx,rfl⟩))))
 (·exact .inl (.inl (.inr ⟨x,hx,rfl⟩)))
 (·exact .inl (.inr ⟨x,hx,rfl⟩))
 (·exact .inr (.inl (.inl ⟨x,hx,rfl⟩)))
 (·exact .inr (.inl (.inr ⟨x,hx,rfl⟩)));exact .inr (.inr ⟨x,hx,rfl⟩)
theorem We {s:bY} (h:cN s=true):Bd 100000000 (iE s):=by
 have R:=dm h;have L:=R.len;simp only[uses,ei,eE,List.length_append,List.length_map]at L;have a:=di R.name;have p0:Bd 3 [cm [115,104,101,101,116],dH s.name,cm [123]]:=Bd.cons (dY _ ag) (Bd.cons (oD af) (Bd.one (dY _ ag)));have p1:Bd 10000000 (s.imports.flatMap eo):=Bd.jA (k:=100) (fun x hx=>SE (R.imports x hx).1 (R.imports x hx).2) af ag;have p2:Bd 10000000 (s.inputs.flatMap ek):=Bd.jA (k:=100) (fun x hx=>Wb (R.inputs x hx).1 (R.inputs x hx).2) af ag;have p3:Bd 10000000 (s.tables.flatMap eH):=Bd.jA (k:=100) (fun x hx=>Wd (R.tables x hx).2) af ag;have p4:Bd 10000000 (s.funcs.flatMap gC):=Bd.jA (k:=100) (fun x hx=>func_bd (R.funcs x hx).1 (R.funcs x hx).2) af ag;have p5:Bd 10000000 (s.cells.flatMap eX):=Bd.jA (k:=100) (fun x hx=>cell_bd (R.cells x hx).1 (R.cells x hx).2) af ag;have p6:Bd 10000000 (s.b9.flatMap iD):=Bd.jA (k:=100) (fun x hx=>port_bd (R.b9 x hx).1 (R.b9 x hx).2) af ag;have p7:Bd 10000000 (s.stores.flatMap storeT):=Bd.jA (k:=100) (fun x hx=>Wc (R.stores x hx).1 (R.stores x hx).2) af ag;have p8:Bd 10000000 (s.bX.flatMap fE):=Bd.jA (k:=100) (fun x hx=>SF (R.bX x hx).1 (R.bX x hx).2) af ag;exact(((((((((p0.add p1).add p2).add p3).add p4).add p5).add p6).add p7).add p8).add (Bd.one (dY [125] ag))).le ag
end
end Sh
namespace Go.Proofs.YtkfofnjfihfgkaaGreatDoor
open Go Go.RowKit
section
section
variable {P:Program} {ops:Array Oper} {md:Region.Mode} {S:Nat→World→Prop} {Q:Exit→Act→World→Prop} {D:List Nat}
theorem dZ {i:Nat} {d:Option Tmp} {op:Op} {ty:TypeId} {pos:String} {xz:Array Edge} {gd:Option (Nat×Bool)} {v:Value} {r:List (Nat×Bool)} {a a':Act} {w:World} (h:kM P md ops S Q D r (a'.put d v) w) (ha:a=a':=by first|(simp only[Act.put,List.setIfInBounds_toArray,List.set_cons_zero,List.set_cons_succ];done)|(simp only[Act.put,List.setIfInBounds_toArray,List.set_cons_zero,List.set_cons_succ];rfl)|rfl) (hi:ops[i]? =some ⟨d,op,ty,pos,xz,gd⟩:=by rfl) (hw:Region.wanted ⟨d,op,ty,pos,xz,gd⟩ (yielded ops a'.tmps)=true:=by kernel_rfl)
 (hy:∀ W,S i W→(execOp a'.eval ⟨d,op,ty,pos,xz,gd⟩).run P W= .ok (.value v) W:=by
  intro wq hSw;first
   |(clear hSw;first|(go_simp;done)|(go_simp;with_reducible rfl))
   |(simp only[↓reduceIte,Nat.reduceEqDiff]at hSw;first|(go_simp;done)|(go_simp;with_reducible rfl))):kM P md ops S Q D ((i,false) :: r) a w:=ha▸⟨⟨d,op,ty,pos,xz,gd⟩,v,hi,.inl ⟨hw,hy⟩,h⟩
theorem hws2 {i:Nat} {d:Option Tmp} {op:Op} {ty:TypeId} {pos:String} {xz:Array Edge} {gd:Option (Nat×Bool)} {r:List (Nat×Bool)} {a a':Act} {w:World} (h:kM P md ops S Q D r (a'.put d undef) w) (ha:a=a':=by first|(simp only[Act.put,List.setIfInBounds_toArray,List.set_cons_zero,List.set_cons_succ];done)|(simp only[Act.put,List.setIfInBounds_toArray,List.set_cons_zero,List.set_cons_succ];rfl)|rfl) (hi:ops[i]? =some ⟨d,op,ty,pos,xz,gd⟩:=by rfl) (hw:Region.wanted ⟨d,op,ty,pos,xz,gd⟩ (yielded ops a'.tmps)=false:=by kernel_rfl):
 kM P md ops S Q D ((i,false) :: r) a w:=ha▸⟨⟨d,op,ty,pos,xz,gd⟩,undef,hi,.inr ⟨hw,rfl⟩,h⟩
theorem eY (ns:List Nat) {i:Nat} {d:Option Tmp} {op:Op} {ty:TypeId} {pos:String} {xz:Array Edge} {gd:Option (Nat×Bool)} {r:List (Nat×Bool)} {a a':Act} {w:World}
 (h:∀ K':Act→World→Prop,Shut (∀ a w,ET S w ns→kM P md ops S Q D r a w→K' a w)→if Region.wanted ⟨d,op,ty,pos,xz,gd⟩ (yielded ops a'.tmps)=true then Oper.wp P ⟨d,op,ty,pos,xz,gd⟩ a' w K' Q else K' (a'.put d undef) w) (ha:a=a':=by first|(go_frame;done)|(go_frame;rfl)|rfl) (hi:ops[i]? =some ⟨d,op,ty,pos,xz,gd⟩:=by rfl) (hn:left md ops D i=ns:=by kernel_rfl):kM P md ops S Q D ((i,true) :: r) a w:=ha▸VX ns hi hn h
end
end
end Go.Proofs.YtkfofnjfihfgkaaGreatDoor
namespace Go.Proofs.YtkfofnjfihfgkaaGreatDoor
open Go Go.RowKit Go.Proofs Sh Kb
section
theorem mO {α β:Type} (f:α→β) {xs:List α} {k:Nat} (h:k<xs.length):(xs.take (k+1)).map f=(xs.take k).map f++[f xs[k]]:=by
 rw[List.take_add_one,List.getElem?_eq_getElem h,List.map_append];rfl
def qK (t:Sh.Tok):List Value:=[bR t.kind,bV t.text,bR t.n,bR 0]
theorem tR (t:Sh.Tok):(qK t).length=4:=rfl
theorem Dd (t:Sh.Tok):∀ v∈qK t,v.oneCell'=true:=fun v hv=>by
 simp[qK]at hv;rcases hv with rfl|rfl|rfl|rfl<;>rfl
def De:Rel Sh.Tok:=jX 4 qK tR Dd
structure kz (T B g:Nat) (w:World) (v:Value) (ts:List Sh.Tok):Prop where
 blk:cH w g T [v]
 own:w.ownsRow B 212 4 v ts.length (ts.flatMap qK)
 apart:some g≠v.ownBlock
 base:B≤g
structure Wf (g:Nat) (v:Value) (w w':World) (v':Value):Prop where
 os:w'.os=w.os
 tape:w'.tape=w.tape
 output:w'.output=w.output
 size:w.heap.size≤w'
 block:∀ b,b<w.heap.size→b≠g→some b≠v.ownBlock→w'.heap[b]? =w.heap[b]?
 row:v'.ownBlock=v.ownBlock∨∃ r,v'.ownBlock=some r∧w.heap.size≤r
structure qB (g:Nat) (v:Value) (w:World) (b:Nat):Prop where
 lt:b<w.heap.size
 ne:b≠g
 row:some b≠v.ownBlock
section
variable {T B g b:Nat} {w w' w'':World} {v v' v'':Value} {ts us:List Sh.Tok}
theorem Wf.refl (g:Nat) (v:Value) (w:World):Wf g v w w v:=⟨rfl,rfl,rfl,Nat.le_refl _,fun _ _ _ _=>rfl,.inl rfl⟩
theorem Wf.trans (h:Wf g v w w' v') (k:Wf g v' w' w'' v''):Wf g v w w'' v'':=by
 refine⟨k.os.trans h.os,k.tape.trans h.tape,k.output.trans h.output,Nat.le_trans h.size k.size,fun b hb h1 h2=>(k.block b (Nat.lt_of_lt_of_le hb h.size) h1 (fun e=>?_)).trans (h.block b hb h1 h2),?_⟩
 ·rcases h.row with q|⟨r,q,hr⟩
  (·exact h2 (e.trans q));rw[q]at e;injection e with e;omega
 rcases k.row with q|⟨r,q,hr⟩
 ·rcases h.row with p|⟨r,p,hr⟩
  (·exact .inl (q.trans p));exact .inr ⟨r,q.trans p,hr⟩
 exact .inr ⟨r,q,Nat.le_trans h.size hr⟩
theorem Wf.cj (h:Below w w w') (g:Nat) (v:Value):Wf g v w w' v:=⟨h.os,h.tape,h.output,h.size,fun b hb _ _=>h.block b hb,.inl rfl⟩
theorem Wf.far (h:Wf g v w w' v') (k:qB g v w b):qB g v' w' b:=by
 refine⟨Nat.lt_of_lt_of_le k.lt h.size,k.ne,fun e=>?_⟩;rcases h.row with q|⟨r,q,hr⟩
 (·exact k.row (e.trans q));rw[q]at e;injection e with e;have:=k.lt;omega
theorem Wf.cell (h:Wf g v w w' v'):∀ b o,qB g v w b→w'.cell? (bS b o)=w.cell? (bS b o):=fun b o k=>World.cell?_of_block (a:=bS b o) (h.block b k.lt k.ne k.row)
theorem Wf.keeps (h:Wf g v w w' v'):cA (qB g v w) w w':=⟨h.size,fun b hb k=>h.block b hb k.ne k.row⟩
theorem kz.lt (h:kz T B g w v ts):g<w.heap.size:=h.blk.lt
theorem kz.bU (h:kz T B g w v ts) (hb:Below w w w'):kz T B g w' v ts:=⟨h.blk.bU hb h.blk.lt,rT h.own hb,h.apart,h.base⟩
theorem kz.alloc (h:kz T B g w v ts) (o:Obj):kz T B g (w.alloc o) v ts:=h.bU (cJ _)
theorem kz.QO (h:kz T B g w v ts) (o:Obj):qB g v (w.alloc o) w:=
 ⟨by simp,Nat.ne_of_gt h.lt,fun e=>by have:=(nV h.own _ e.symm).2;omega⟩
theorem qB.alloc (h:qB g v w b) (o:Obj):qB g v (w.alloc o) b:=⟨Nat.lt_of_lt_of_le h.lt aj,h.ne,h.row⟩
theorem qB.bU (h:qB g v w b) (hb:Below w w w'):qB g v w' b:=⟨Nat.lt_of_lt_of_le h.lt hb.size,h.ne,h.row⟩
theorem kz.QS (h:kz T B g w v ts) (hb:b<B):qB g v w b:=⟨by have:=h.lt;have:=h.base;omega,by have:=h.base;omega,fun e=>by have:=(nV h.own _ e.symm).1;omega⟩
theorem Wf.bU (h:Wf g v w w' v') (k:kz T B g w v ts):Below B w w':=⟨h.os,h.tape,h.output,h.size,fun b hb=>h.block b (by have:=k.lt;have:=k.base;omega) (by have:=k.base;omega) (fun e=>by have:=(nV k.own _ e.symm).1;omega)⟩
structure xG (B g:Nat) (w:World) (v:Value) (ts us:List Sh.Tok) (w':World) (v':Value):Prop where
 own:w'.ownsRow B 212 4 v' (ts.length+us.length) (ts.flatMap qK++us.flatMap qK)
 turn:w.grownBy w' v.ownBlock
 row:v'.ownBlock=v.ownBlock∨v'.ownBlock=some w.heap.size
theorem A_ {base e size n i:Nat} {us:List Value} {u:Value} (h:w.ownsRow base e size v n us) (hne:some g≠v.ownBlock):(w.setCell (bS g i) u).ownsRow base e size v n us:=by
 refine⟨h.1,?_⟩;rcases h.2 with h1|⟨k,cap,cur,rfl,hB,hg,rest⟩
 (·exact .inl h1);refine .inr ⟨k,cap,cur,rfl,hB,?_,rest⟩;rw[Below.heap_setCell w (bS g i) u k (fun e=>hne (by have e2:k=g:=e;rw[e2];rfl))];exact hg
theorem kz.stored (h:kz T B g w v ts) (k:xG B g w v ts us w' v'):kz T B g (w'.setCell (bS g 0) v') v' (ts++us)∧Wf g v w (w'.setCell (bS g 0) v') v':=by
 have hap:some g≠v'.ownBlock:=by
  rcases k.row with q|q
  (·rw[q];exact h.apart);rw[q];intro e;injection e with e;have:=h.lt;omega
 refine⟨⟨?_,?_,hap,h.base⟩,?_⟩
 (·have h1:cH w' g T [v]:=(k.turn.block g h.lt h.apart).trans h.blk;simpa using h1.cM 0 v')
 (·have:=A_ (g:=g) (i:=0) (u:=v') k.own hap;simpa using this);refine⟨k.turn.os,k.turn.tape,k.turn.output,by simpa [World.setCell]using k.turn.size,fun b hb h1 h2=>(Below.heap_setCell w' (bS g 0) v' b h1).trans (k.turn.block b hb h2),?_⟩;rcases k.row with q|q
 (·exact .inl q);exact .inr ⟨_,q,Nat.le_refl _⟩
end
section
variable {T B g:Nat} {w w':World} {v v':Value} {ts us:List Sh.Tok}
theorem xG.Bc (k:xG B g w v ts us w' v') (h:kz T B g w v ts):bW w' g 0 v∧w'.frozen? (bS g 0)=false:=by
 have h1:cH w' g T [v]:=(k.turn.block g h.lt h.apart).trans h.blk;exact⟨h1.cell 0,h1.frozen 0⟩
theorem sq_lit (w:World) (l:List ByteArray) (t:TypeId):Sq dw (w.alloc (.cells (l.map Value.string).toArray t)) (fun b=>b=w.heap.size) (bS w 0) l:=by
 refine⟨l.map fun s=>[bV s],by simp,fun _=>⟨w.heap.size,0,rfl,rfl,by simp,fun j cs hj i u hu=>?_⟩,fun j cs x hc hx=>?_⟩
 ·rw[cell_of_row _ _ _ _ _ _ (heap_alloc_new w _)];rw[List.getElem?_map]at hj;cases hx:l[j]? with
  |none=>rw[hx]at hj;cases hj
  |some x=>
   rw[hx]at hj;injection hj with hj;subst hj;(have hi:i=0:=by have:=(List.getElem?_eq_some_iff.1 hu).1;simpa using this);subst hi;have hu':bV x=u:=(by simpa using hu);show(l.map Value.string).toArray[0+j*1+0]? =some u;simp[hx,hu']
 rw[List.getElem?_map,hx]at hc;simpa [dw,jX]using hc.symm
end
def kR (T B g:Nat) (v:Value) (ts news:List Sh.Tok) (w:World) (e:Ending) (w':World):Prop:=e= .returned (.tuple #[])∧∃ v',kz T B g w' v' (ts++news)∧Wf g v w w' v'
def dh:Nat:=1000000000000
theorem QT:(Tryz.prog.info? 212).map (fun i=>(i.zero,i.size,i.bytes))=some (some (.agg #[bR 0,bV ByteArray.empty,bR 0,bR 0]),4,40):=by kernel_rfl
section
variable {T B g:Nat} (w:World) {ops:Array Oper} {rest:List Oper} {o:Oper} {a:Act} {Q:Exit→Act→World→Prop} {v:Value} {ts us:List Sh.Tok}
theorem qC (hgd:o.guard=none) (s x:Operand) (t:TypeId) (ht:t=129) (ho:o.op= .call {callee:= .builtin .append,args:=#[s,x],argTypes:=#[t,t]}) (h:kz T B g w v ts) (hs:a.eval s=v) (A:Option Addr) (n c:Nat) (hx:a.eval x=bQ A n c) (hr:Reads w w 4 A n (us.flatMap qK)) (hn:us.length=n) (hl:ts.length+n≤dh) (hK:∀ A' n' c' w',Hid (xG B g w v ts us w' (bQ A' n' c'))→wpList prog ops Q rest (a.put o.dst (bQ A' n' c')) w'):wpList prog ops Q (o :: rest) a w:=by
 subst ht hn;obtain⟨i0,ug,hz0,hz1,hz2⟩:=info_parts QT;(have hb:B≤w.heap.size:=by have:=h.lt;have:=h.base;omega);unfold dh at hl;exact eZ w hgd s x _ ho B 212 i0 _ 4 40 Tryz.underlying129 ug hz0 hz1 hz2 rfl af v ts.length _ hs h.own w A us.length c _ hx hr
  (fun u hu=>by
   obtain⟨t,_,ht⟩:=List.mem_flatMap.1 hu;exact Dd t u ht) aT af hb (fun v' w' h1 h2 h3=>by
   obtain⟨A',c',e,_⟩:=iU h1;subst e;exact hK A' _ c' w' ⟨h1,h2,h3⟩)
theorem gQ (hgd:o.guard=none) (s x:Operand) (t:TypeId) (ht:t=129) (ho:o.op= .call {callee:= .builtin .append,args:=#[s,x],argTypes:=#[t,t]}) {w0:World} {k:Sh.Tok} (hw:w=w0.alloc (.cells #[bR k.kind,bV k.text,bR k.n,bR 0] 212)) (h:kz T B g w0 v ts) (hs:a.eval s=v) (hx:a.eval x=bQ (bS w0 0) 1 1) (hl:ts.length+1≤dh) (hK:∀ A' n' c' w',Hid (xG B g w v ts [k] w' (bQ A' n' c'))→wpList prog ops Q rest (a.put o.dst (bQ A' n' c')) w'):wpList prog ops Q (o :: rest) a w:=by
 subst hw;refine qC _ hgd s x t ht ho (h.alloc _) hs _ 1 1 hx ?_ rfl hl hK;have:=vv w0 (qK k) 212 1 4 rfl;simpa [qK]using this
end
section
variable {T B g:Nat} (w:World) {ops:Array Oper} {o:Oper} {a:Act} {K:Act→World→Prop} {Q:Exit→Act→World→Prop} {v:Value} {ts us:List Sh.Tok} {E:Prop}
theorem Be (hgd:o.guard=none) (s x:Operand) (t:TypeId) (ht:t=129) (ho:o.op= .call {callee:= .builtin .append,args:=#[s,x],argTypes:=#[t,t]}) (h:kz T B g w v ts) (hs:a.eval s=v) (A:Option Addr) (n c:Nat) (hx:a.eval x=bQ A n c) (hr:Reads w w 4 A n (us.flatMap qK)) (hn:us.length=n) (hl:ts.length+n≤dh) (hK:∀ A' n' c' w',Hid (xG B g w v ts us w' (bQ A' n' c'))→K (a.put o.dst (bQ A' n' c')) w'):if Region.wanted o (yielded ops a.tmps)=true then Oper.wp prog o a w K Q else E:=by
 subst ht hn;obtain⟨i0,ug,hz0,hz1,hz2⟩:=info_parts QT;(have hb:B≤w.heap.size:=by have:=h.lt;have:=h.base;omega);unfold dh at hl;exact AP w hgd s x _ ho B 212 i0 _ 4 40 Tryz.underlying129 ug hz0 hz1 hz2 rfl af v ts.length _ hs h.own w A us.length c _ hx hr
  (fun u hu=>by
   obtain⟨t,_,ht⟩:=List.mem_flatMap.1 hu;exact Dd t u ht) aT af hb (fun v' w' h1 h2 h3=>by
   obtain⟨A',c',e,_⟩:=iU h1;subst e;exact hK A' _ c' w' ⟨h1,h2,h3⟩)
theorem jJ (hgd:o.guard=none) (s x:Operand) (t:TypeId) (ht:t=129) (ho:o.op= .call {callee:= .builtin .append,args:=#[s,x],argTypes:=#[t,t]}) {w0:World} {k:Sh.Tok} (hw:w=w0.alloc (.cells #[bR k.kind,bV k.text,bR k.n,bR 0] 212)) (h:kz T B g w0 v ts) (hs:a.eval s=v) (hx:a.eval x=bQ (bS w0 0) 1 1) (hl:ts.length+1≤dh) (hK:∀ A' n' c' w',Hid (xG B g w v ts [k] w' (bQ A' n' c'))→K (a.put o.dst (bQ A' n' c')) w'):if Region.wanted o (yielded ops a.tmps)=true then Oper.wp prog o a w K Q else E:=by
 subst hw;refine Be _ hgd s x t ht ho (h.alloc _) hs _ 1 1 hx ?_ rfl hl hK;have:=vv w0 (qK k) 212 1 4 rfl;simpa [qK]using this
end
end
theorem Nv (B g:Nat) (v:Value) (ts:List Sh.Tok) (l:List ByteArray) (A:Option Addr) (c:Nat) (w:World) (h:kz 131 B g w v ts) (hS:Sq dw w (qB g v w) A l) (hz:∀ s∈l,Ms s) (hl:ts.length+l.length≤dh) (hll:l.length≤maxLen):Calls prog 71 #[.pointer (bS g 0),bQ A l c] w (kR 131 B g v ts (l.map dH) w):=by
 have hl12:l.length≤1000000000000:=(by unfold dh at hl;omega);have HS:=aa hS;have HZ:=aa hz;have HL:=aa hl;have HW0:=aa (show kz 131 B g w v (ts++(l.take 0).map dH) by simpa using h);have HF0:=aa (Wf.refl g v w);generalize hP:kR 131 B g v ts (l.map dH) w=P;have HP:=aa (show ∀ w' v',kz 131 B g w' v' (ts++l.map dH)→Wf g v w w' v'→P (.returned (.tuple #[])) w' from fun w' v' h1 h2=>by rw[← hP];exact⟨rfl,v',h1,h2⟩);clear hS hz hl h hP;go_enter func71,ntmps71;go_wp2_with fail;go_loopw [9] (fun s9 wr=>∃ (k:Nat) (vk:Value),k≤l.length∧s9=bR (k:Int)∧Hid (kz 131 B g wr vk (ts++(l.take k).map dH))∧Hid (Wf g v w wr vk)) (fun s9 _=>l.length - (intOf s9).toNat);(case atStart=>exact⟨0,v,Nat.zero_le _,rfl,HW0,HF0⟩);clear HW0 HF0;obtain⟨k,vk,hk,rfl,HW,HF⟩:=hrel;by_cases hlt:k<l.length
 ·obtain⟨bi,oi,cs,fI,_,CC,ep,dn⟩:=(HS.o.keep HF.o.keeps).get hlt;subst fI;have ew:=aa (mO dH hlt);have hm:=HZ.o _ (List.getElem_mem hlt);generalize l[k]=s at ep hm ew;have hcs:cs=[bV s]:=ep;subst hcs;have b0:bW wr bi (oi+k) (bV s):=(by simpa [dw,jX]using dn 0 _ rfl);have hN:=aa (fun W=>tr s W hm);have g0:bW wr g 0 vk:=HW.o.blk.cell 0;(have hle:(ts++(l.take k).map dH).length+1≤dh:=by have:=HL.o;simp;omega);have EW:=aa hle;clear dn hm hle;generalize nW:ts++(l.take k).map dH=tk at HW EW;have pM:=aa nW;clear nW;cases hnb:mq s.data.toList with
  |true=>
   have HPT:=aa (show dH s=⟨0,s,0⟩ by unfold dH jF;simp[hnb]);rw[hnb]at hN;clear hnb;go_wp2_with fail;refine(hN.o _).mono ?_;rintro e w1 ⟨rfl,rfl⟩;go_wp2_with (at_builtin;refine gQ _ rfl (.tmp 19) (.tmp 23) _ rfl rfl (k:=⟨0,s,0⟩) rfl HW.o rfl rfl EW.o ?_);intro A2 n2 c2 w2 HG;obtain⟨x1,x2⟩:=HG.o.Bc (HW.o.alloc _);have tS:=aa ((HW.o.alloc _).stored HG.o);clear HG;go_wp2_with fail;go_roundw;(case rel=>exact⟨k+1,_,by omega,rfl,aa (by rw[ew.o, ← List.append_assoc,HPT.o,pM.o];exact tS.o.1),aa (HF.o.trans ((Wf.cj (cJ _) _ _).trans tS.o.2))⟩);(case measure=>simp[intOf];omega)
  |false=>
   have HPT:=aa (show dH s=⟨3,s,0⟩ by unfold dH jF;simp[hnb]);rw[hnb]at hN;clear hnb;go_wp2_with fail;refine(hN.o _).mono ?_;rintro e w1 ⟨rfl,rfl⟩;go_wp2_with (at_builtin;refine gQ _ rfl (.tmp 19) (.tmp 23) _ rfl rfl (k:=⟨3,s,0⟩) rfl HW.o rfl rfl EW.o ?_);intro A2 n2 c2 w2 HG;obtain⟨x1,x2⟩:=HG.o.Bc (HW.o.alloc _);have tS:=aa ((HW.o.alloc _).stored HG.o);clear HG;go_wp2_with fail;go_roundw;(case rel=>exact⟨k+1,_,by omega,rfl,aa (by rw[ew.o, ← List.append_assoc,HPT.o,pM.o];exact tS.o.1),aa (HF.o.trans ((Wf.cj (cJ _) _ _).trans tS.o.2))⟩);(case measure=>simp[intOf];omega)
 (obtain rfl:k=l.length:=by omega);have AY:=aa (show kz 131 B g wr vk (ts++l.map dH) by have:=HW.o;rwa [List.take_length]at this);clear HW hlt;go_wp2_with fail;exact⟨rfl,.tuple #[],results_none rfl _ _ _,HP.o _ _ AY.o HF.o⟩
theorem g_ {B g:Nat} {v:Value} {ts:List Sh.Tok} (l:List ByteArray) {w:World} (h:kz 131 B g w v ts) (hz:∀ s∈l,Ms s) (hl:ts.length+l.length≤dh) (t:TypeId):Calls prog 71 #[.pointer (bS g 0),bQ (bS w 0) l l] (w.alloc (.cells (l.map Value.string).toArray t)) (kR 131 B g v ts (l.map dH) w):=by
 have hll:l.length≤maxLen:=(by unfold dh at hl;unfold maxLen;omega);refine(Nv B g v ts l _ l.length _ (h.alloc _) ((sq_lit w l t).mono fun b hb e=>by subst e;exact h.QO _) hz hl hll).mono ?_;rintro e w' ⟨he,v',h1,h2⟩;exact⟨he,v',h1,(Wf.cj (cJ _) _ _).trans h2⟩
end Go.Proofs.YtkfofnjfihfgkaaGreatDoor
namespace Go.Proofs.YtkfofnjfihfgkaaGreatDoor
open Go Go.RowKit Go.Shelf Go.Proofs
def QU:String:=match Rows.moduleOverridesRow.laid with
 |_ :: _ :: x :: _=>x.1
 |_=>default
def FW (B:Nat) (w:World):Prop:=Lib.TabBelow prog B w QU .u64 Lib.pow10Tab
theorem FW.on {B:Nat} {w w1:World} (h:FW B w) (hb:Below B w w1):FW B w1:=Lib.TabBelow.on h hb
theorem FW.here {B:Nat} {w:World} (h:FW B w):Lib.TabIs prog w QU .u64 Lib.pow10Tab:=Lib.TabBelow.here h
theorem Nw {w:World} {k:Nat} {os:Array Obj}:Below w w (Sort.grow (w.drewN k) os):=
 ⟨rfl,rfl,rfl,by simp[Sort.grow,World.drewN],fun b hb=>by
  show(w.heap++os)[b]? =w.heap[b]?;rw[Array.getElem?_append_left hb]⟩
theorem KI (n:Int) (h0:-9223372036854775808≤n) (h1:n≤9223372036854775807) {B:Nat} (w:World) (ht:FW B w):
 Calls prog 143 #[bR n] w fun e w'=>e= .returned (bV ⟨(Lib.itoa n).toArray⟩)∧Below w w w':=
 (Any.strconv_Itoa UE n h0 h1 w ht.here).mono fun e w' ⟨he,k,os,hw⟩=>⟨he,by rw[hw];exact Nw⟩
end Go.Proofs.YtkfofnjfihfgkaaGreatDoor
namespace Go.Proofs.YtkfofnjfihfgkaaGreatDoor
open Go Go.RowKit Go.Proofs Sh Kb
section
structure Loc (g:Nat) (v:Value) (w:World) (p:Nat) (t:TypeId) (cs:List Value):Prop where
 far:qB g v w p
 blk:cH w p t cs
section
variable {T B g p:Nat} {w w':World} {v v':Value} {t:TypeId} {cs:List Value} {ts:List Sh.Tok}
theorem Loc.wf (h:Loc g v w p t cs) (k:Wf g v w w' v'):Loc g v' w' p t cs:=⟨k.far h.far,(k.block p h.far.lt h.far.ne h.far.row).trans h.blk⟩
theorem Loc.new (h:kz T B g w v ts) (t:TypeId) (cs:List Value):Loc g v (w.alloc (.cells cs.toArray t)) w t cs:=⟨h.QO _,heap_alloc_new _ _⟩
theorem Loc.bU (h:Loc g v w p t cs) (hb:Below w w w'):Loc g v w' p t cs:=⟨h.far.bU hb,h.blk.bU hb h.far.lt⟩
theorem Loc.old (h:kz T B g w v ts) (hb:cH w p t cs) (hp:p<B):Loc g v w p t cs:=⟨h.QS hp,hb⟩
end
theorem xG.blk {B g p:Nat} {w w':World} {v v':Value} {ts us:List Sh.Tok} {t:TypeId} {cs:List Value} (k:xG B g w v ts us w' v') (h:Loc g v w p t cs):cH w' p t cs:=(k.turn.block p h.far.lt h.far.row).trans h.blk
theorem gB {w w':World} (h:Below w.drew.heap.size w.drew w'):Below w w w':=⟨h.os,h.tape,h.output,h.size,h.block⟩
theorem oJ (l:List UInt8) (h:l.length≤100):Ms (bs l):=by
 show l.toArray.size≤maxLen;rw[List.size_toArray];unfold maxLen;omega
theorem tT {a:ByteArray} (h:Ms a):∀ s∈[a],Ms s:=fun s hs=>by simp at hs;subst hs;exact h
theorem all3 {a b c:ByteArray} (h:Ms a) (k:Ms b) (m:Ms c):∀ s∈[a,b,c],Ms s:=fun s hs=>by simp at hs;rcases hs with rfl|rfl|rfl<;>assumption
theorem KJ {B g:Nat} {v:Value} {ts:List Sh.Tok} (word name unit:ByteArray) (w:World) (h:kz 131 B g w v ts) (hw:Ms word) (hn:Ms name) (hl:ts.length+((if fR word then[]else[dH word])++[dH name,yo unit]).length≤dh):Calls prog 74 #[.pointer (bS g 0),bV word,bV name,bV unit] w (kR 131 B g v ts ((if fR word then[]else[dH word])++[dH name,yo unit]) w):=by
 have HW:=aa h;have HMw:=aa hw;have HMn:=aa hn;have HLo:=aa hl;have HL1:=aa (show ts.length+1≤dh by rw[List.length_append]at hl;simp only[List.length_cons,List.length_nil]at hl;omega);have EL:=fo word;have rz:=nil_eq word;generalize hP:kR 131 B g v ts ((if fR word then[]else[dH word])++[dH name,yo unit]) w=P;have HP:=aa (show ∀ w' v',kz 131 B g w' v' (ts++((if fR word then[]else[dH word])++[dH name,yo unit]))→Wf g v w w' v'→P (.returned (.tuple #[])) w' from fun w' v' h1 h2=>by rw[← hP];exact⟨rfl,v',h1,h2⟩);clear h hw hn hl hP;cases hb:fR word with
 |true=>
  rw[hb]at EL rz HP HLo;have HL:=aa (show ts.length+2≤dh by have h9:=HLo.o;simpa using h9);clear hb HLo;go_enter func74,ntmps74;go_wp2_with fail;refine(g_ [name] HW.o (tT HMn.o) HL1.o _).mono ?_;rintro e w1 ⟨rfl,v1,h1,f1⟩;obtain⟨tk,nW⟩:∃ tk,tk=ts++[dH name]:=⟨_,rfl⟩;have AY:=aa (show kz 131 B g w1 v1 tk by rw[nW];exact h1);have Df:=aa f1;have g0:bW w1 g 0 v1:=AY.o.blk.cell 0;have EW:=aa (show tk.length+1≤dh by rw[nW];have:=HL.o;simp;omega);have pM:=aa nW;clear nW;clear h1 f1;go_wp2_with (at_builtin;refine gQ _ rfl (.tmp 22) (.tmp 25) _ rfl rfl (k:=yo unit) rfl AY.o rfl rfl EW.o ?_);intro A2 n2 c2 w2 HG;obtain⟨x1,x2⟩:=HG.o.Bc (AY.o.alloc _);have tS:=aa ((AY.o.alloc _).stored HG.o);clear HG;go_wp2_with fail;exact⟨rfl,.tuple #[],results_none rfl _ _ _,HP.o _ _ (by have h9:=tS.o.1;rw[pM.o]at h9;simpa using h9) (Df.o.trans ((Wf.cj (cJ _) _ _).trans tS.o.2))⟩
 |false=>
  rw[hb]at EL rz HP HLo;have HL:=aa (show ts.length+3≤dh by have h9:=HLo.o;simpa using h9);clear hb HLo;go_enter func74,ntmps74;go_wp2_with fail;refine(g_ [word] HW.o (tT HMw.o) HL1.o _).mono ?_;rintro e w0 ⟨rfl,v0,h0,f0⟩;have HW0:=aa h0;have HF0:=aa f0;clear h0 f0;have HLE0:=aa (show(ts++[dH word]).length+1≤dh by have:=HL.o;simp;omega);go_wp2_with fail;refine(g_ [name] HW0.o (tT HMn.o) HLE0.o _).mono ?_;rintro e w1 ⟨rfl,v1,h1,f1⟩;obtain⟨tk,nW⟩:∃ tk,tk=ts++[dH word]++[dH name]:=⟨_,rfl⟩;have AY:=aa (show kz 131 B g w1 v1 tk by rw[nW];exact h1);have Df:=aa f1;have g0:bW w1 g 0 v1:=AY.o.blk.cell 0;have EW:=aa (show tk.length+1≤dh by rw[nW];have:=HL.o;simp;omega);have pM:=aa nW;clear nW;clear h1 f1;go_wp2_with (at_builtin;refine gQ _ rfl (.tmp 22) (.tmp 25) _ rfl rfl (k:=yo unit) rfl AY.o rfl rfl EW.o ?_);intro A2 n2 c2 w2 HG;obtain⟨x1,x2⟩:=HG.o.Bc (AY.o.alloc _);have tS:=aa ((AY.o.alloc _).stored HG.o);clear HG;go_wp2_with fail;exact⟨rfl,.tuple #[],results_none rfl _ _ _,HP.o _ _ (by have h9:=tS.o.1;rw[pM.o]at h9;simpa using h9) (HF0.o.trans (Df.o.trans ((Wf.cj (cJ _) _ _).trans tS.o.2)))⟩
theorem uE {B g:Nat} {v:Value} {ts:List Sh.Tok} (word:List UInt8) (name unit:ByteArray) {w:World} (h:kz 131 B g w v ts) (hw:word.length≤100) (h0:fR (bs word)=false) (hn:Ms name) (hl:ts.length+3≤dh):Calls prog 74 #[.pointer (bS g 0),bV (bs word),bV name,bV unit] w (kR 131 B g v ts (mD word name unit) w):=by
 have:=KJ (bs word) name unit w h (oJ word hw) hn (by rw[h0];simpa using hl);rw[h0]at this;exact this
end
theorem EX {B B0 g:Nat} {v:Value} {ts:List Sh.Tok} (n:Int) (w:World) (h:kz 131 B g w v ts) (hT:FW B0 w) (hB:B0≤B) (hn:-2000000000000≤n∧n≤2000000000000) (hl0:ts.length+(fK n).length≤dh):Calls prog 75 #[.pointer (bS g 0),bR n] w (kR 131 B g v ts (fK n) w):=by
 obtain⟨m,hm⟩:∃ m:Int,m=if n<0 then -n else n:=⟨_,rfl⟩;have hm0:0≤m∧m≤2000000000000:=(by rw[hm];split<;>omega);have HI:=aa (fun W (hW:Below B w W)=>KI m af af W (hT.on (hW.mono hB)));have HW:=aa h;have hl:ts.length+(if n<0 then 2 else 1)≤dh:=by
  unfold fK at hl0;by_cases q:n<0
  (·simpa [q]using hl0);simpa [q]using hl0
 have HLx:=aa hl;have HL1:=aa (show ts.length+1≤dh by split at hl<;>omega);have hng:IntKind.i64.wrap (-n)=-n:=fC af;generalize hP:kR 131 B g v ts (fK n) w=P;have HP:=aa (show ∀ w' v',kz 131 B g w' v' (ts++fK n)→Wf g v w w' v'→P (.returned (.tuple #[])) w' from fun w' v' h1 h2=>by rw[← hP];exact⟨rfl,v',h1,h2⟩);have HBb:=aa (show B≤w.heap.size by have:=h.lt;have:=h.base;omega);clear h hl hl0 hP hT hB;by_cases h0:n<0;(case pos=>have e0:decide (n<0)=true:=bL;have HN:=aa (show fK n=[cm [45]]++[uN m] by unfold fK;rw[hm];simp[h0]);have hmx:max n (-n)=m:=(by rw[hm,if_pos h0];omega);clear hm;have HL:=aa (show ts.length+2≤dh by have h9:=HLx.o;simpa [h0]using h9);clear HLx;go_enter func75,ntmps75;go_wp2_with fail;refine(g_ [bs [45]] HW.o (tT (oJ _ ag)) HL1.o _).mono ?_;rintro e w1 ⟨rfl,v1,h1,f1⟩;obtain⟨tk,nW⟩:∃ tk,tk=ts++[cm [45]]:=⟨_,rfl⟩;have AY:=aa (show kz 131 B g w1 v1 tk by rw[nW];exact h1);have Df:=aa f1;have EW:=aa (show tk.length+1≤dh by rw[nW];have:=HL.o;simp;omega);have pM:=aa nW;have eJ:=aa (f1.bU HW.o);have g0:bW w1 g 0 v1:=AY.o.blk.cell 0;have HId:=aa (HI.o w1.drew (show Below B w w1.drew from⟨eJ.o.os,eJ.o.tape,eJ.o.output,eJ.o.size,eJ.o.block⟩));clear h1 f1 nW;go_wp2_with fail;refine eP (S:=fun w'=>bW w' g 0 v1) [0,1,5,6,10,11,2,7,12,3,8,13,4,14,17,18] [(0,false),(1,false),(5,false),(6,false),(10,false),(11,false),(2,false),(7,false),(12,false),(3,false),(8,false),(13,false),(4,false),(9,true),(14,false),(15,true),(16,true),(17,false),(18,false),(19,true)] ai ai au rfl ai (g0) ?_;(iterate 13 refine hwr ?_);refine hwt fun K hK=>?_;go_simp;refine(HId.o).mono ?_;rintro e w2 ⟨rfl,hb2⟩;have eT:=aa (gB hb2);have kM:=aa (AY.o.bU eT.o);have g2:bW w2 g 0 v1:=kM.o.blk.cell 0;clear hb2;refine hK.o _ _ (by exact g2) ?_;clear hK K;refine hwr ?_;refine hwt fun K hK=>?_;go_simp;refine hK.o _ _ (by exact(kM.o.alloc _).blk.cell 0) ?_;clear hK K;refine hwt fun K hK=>?_;refine jJ _ rfl (.tmp 13) (.tmp 24) _ rfl rfl (k:=uN m) rfl kM.o rfl rfl EW.o ?_;intro A3 n3 c3 w3 HG;obtain⟨x1,x2⟩:=HG.o.Bc (kM.o.alloc _);refine hK.o _ _ (by exact x1) ?_;clear hK K;refine hwr ?_;refine hwr ?_;refine Bw fun K hK=>?_;go_simp;refine hK.o _ _ ?_;clear hK K;refine lq ?_;(try go_frame);have tS:=aa ((kM.o.alloc _).stored HG.o);clear HG;go_wp2_with fail;exact⟨rfl,.tuple #[],results_none rfl _ _ _,HP.o _ _ (by have h9:=tS.o.1;rw[pM.o]at h9;rw[HN.o];simpa using h9) (Df.o.trans ((Wf.cj eT.o _ _).trans ((Wf.cj (cJ _) _ _).trans tS.o.2)))⟩);have e0:decide (n<0)=false:=bL;have HN:=aa (show fK n=[uN m] by unfold fK;rw[hm];simp[h0]);have hmx:max n (-n)=m:=(by rw[hm,if_neg h0];omega);clear hm;have HL:=aa (show ts.length+1≤dh by have h9:=HLx.o;simpa [h0]using h9);clear HLx;go_enter func75,ntmps75;go_wp2_with fail;have h1:kz 131 B g w v ts:=HW.o;have f1:=Wf.refl g v w;obtain⟨tk,nW⟩:∃ tk,tk=ts:=⟨_,rfl⟩;have AY:=aa (show kz 131 B g w v tk by rw[nW];exact h1);have Df:=aa f1;have EW:=aa (show tk.length+1≤dh by rw[nW];have:=HL.o;simp;omega);have pM:=aa nW;have eJ:=aa (f1.bU HW.o);have g0:bW w g 0 v:=AY.o.blk.cell 0;have HId:=aa (HI.o w.drew (show Below B w w.drew from⟨eJ.o.os,eJ.o.tape,eJ.o.output,eJ.o.size,eJ.o.block⟩));clear h1 f1 nW;refine eP (S:=fun w'=>bW w' g 0 v) [0,1,5,6,10,11,2,7,12,3,8,13,4,14,17,18] [(0,false),(1,false),(5,false),(6,false),(10,false),(11,false),(2,false),(7,false),(12,false),(3,false),(8,false),(13,false),(4,false),(9,true),(14,false),(15,true),(16,true),(17,false),(18,false),(19,true)] ai ai au rfl ai (g0) ?_;(iterate 13 refine hwr ?_);refine hwt fun K hK=>?_;go_simp;refine(HId.o).mono ?_;rintro e w2 ⟨rfl,hb2⟩;have eT:=aa (gB hb2);have kM:=aa (AY.o.bU eT.o);have g2:bW w2 g 0 v:=kM.o.blk.cell 0;clear hb2;refine hK.o _ _ (by exact g2) ?_;clear hK K;refine hwr ?_;refine hwt fun K hK=>?_;go_simp;refine hK.o _ _ (by exact(kM.o.alloc _).blk.cell 0) ?_;clear hK K;refine hwt fun K hK=>?_;refine jJ _ rfl (.tmp 13) (.tmp 24) _ rfl rfl (k:=uN m) rfl kM.o rfl rfl EW.o ?_;intro A3 n3 c3 w3 HG;obtain⟨x1,x2⟩:=HG.o.Bc (kM.o.alloc _);refine hK.o _ _ (by exact x1) ?_;clear hK K;refine hwr ?_;refine hwr ?_;refine Bw fun K hK=>?_;go_simp;refine hK.o _ _ ?_;clear hK K;refine lq ?_;(try go_frame);have tS:=aa ((kM.o.alloc _).stored HG.o);clear HG;go_wp2_with fail;exact⟨rfl,.tuple #[],results_none rfl _ _ _,HP.o _ _ (by have h9:=tS.o.1;rw[pM.o]at h9;rw[HN.o];simpa using h9) (Df.o.trans ((Wf.cj eT.o _ _).trans ((Wf.cj (cJ _) _ _).trans tS.o.2)))⟩
end Go.Proofs.YtkfofnjfihfgkaaGreatDoor
