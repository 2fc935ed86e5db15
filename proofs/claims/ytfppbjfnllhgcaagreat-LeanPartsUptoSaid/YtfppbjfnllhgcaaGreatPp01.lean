/- Parts of the proof, packed (Big to Quote); each theorem bears its own conditions. -/
import Derived.Test.YtfppbjfnllhgcaaGreatProg
import Derived.WalkKit
import Derived.WalkLawsBesides
import Derived.Below
import Derived.Lib.Hide
import Derived.LoopTactic
import Derived.Laws.OwnMore
import Derived.Deep.Draws
import Derived.Laws.Rows
import Derived.Deep.QuietTactic
import Derived.BigQuiet
import Derived.Laws.BitsAllLaws
import Derived.Laws.BitsLemmas
import Derived.Outline
import Derived.Deep.OwnRows
import Derived.Laws.MakeOwn
import Derived.Maps.Own
import Derived.Maps.OwnOps
import Derived.Maps.OwnSet
import Derived.Maps.Views
import Derived.Carry
import Derived.StillTailTactics
import Derived.Lib.Strings
import Derived.Lib.ItoaNum
import Derived.Shelf.SlicesQ.IndexFunc
import Derived.Maps.AppendAt
import Derived.Deep.AppendLies
import Derived.RegionTactic
import Derived.OwnWalk
import Derived.StillTail
import Derived.Deep.Quiet
import Derived.Shelf.Small.Wraps
import Derived.Shelf.Strings.BuilderK
import Derived.Shelf.Strings.OnBuilder
import Derived.Shelf.Strconv.Itoa3
import Derived.Lib.FrozenHead2
set_option linter.unusedVariables false
set_option linter.unusedSimpArgs false
set_option maxRecDepth 100000
set_option maxHeartbeats 8000000
open Go.Proofs.Tryz
open Go.Lib renaming hid → aa
open Nat renaming le_refl→aaB,lt_of_lt_of_le→aaD,le_trans→aaC,zero_le→aaG,add_mul→aaA,mul_le_mul_right→aaF
open List renaming getElem_mem→aan,length_append→aao,getD_eq_getElem?_getD→aam,take_of_length_le→aax,mem_cons→aas,mem_append→aar,mem_map→aat,eq_nil_of_length_eq_zero→aaj,length_take→aaq,replicate→aaw
open Go.RowKit.Below renaming refl→aaf,heap_setCell→aae
open Bool renaming and_eq_true→aag
open Option renaming map_eq_some_iff→aaH
theorem Go.RowKit.Hid.o {p : Prop} (h : Go.RowKit.Hid p) : p := h
theorem aac {n:Nat}:n≤n:=Nat.le_refl n
theorem af {p:Prop} (h:p:=by omega):p:=h
theorem ai {p:Prop} (h:p:=by simp):p:=h
theorem aK {p:Prop} (h:p:=by simpa using h):p:=h
theorem au {p:Prop} (h:p:=by simp;omega):p:=h
theorem aX {p:Prop} (h:p:=by simpa using hi):p:=h
theorem ak {p:Prop} (h:p:=by decide):p:=h
theorem aI {p:Prop} (h:p:=by simpa using h2):p:=h
theorem bq {p:Prop} (h:p:=by rw[List.getElem?_eq_getElem (by omega)];rfl):p:=h
theorem bz {p:Prop} (h:p:=by injection e):p:=h
theorem ah {p:Prop} (h:p:=by kernel_rfl):p:=h
theorem aN {p:Prop} (h:p:=by rw[Bool.eq_iff_iff];simp[← UInt8.toNat_inj];omega):p:=h
namespace Bg
section
def val:List Nat→Nat
 |[]=>0
 |d :: r=>d+1048576*val r
def gI (l:List Nat):Prop:=∀ d∈l,d<1048576
theorem gI.nil:gI []:=by intro d h;cases h
theorem gI.cons {d:Nat} {l:List Nat} (h:d<1048576) (hl:gI l):gI (d :: l):=by
 intro x hx;rcases aas.1 hx with rfl|hx
 (·exact h);exact hl x hx
theorem gI.tail {d:Nat} {l:List Nat} (h:gI (d :: l)):gI l:=fun x hx=>h x (List.mem_cons_of_mem _ hx)
theorem gI.head {d:Nat} {l:List Nat} (h:gI (d :: l)):d<1048576:=h d (List.mem_cons_self ..)
theorem gI.at_ {l:List Nat} (h:gI l) {i:Nat} (hi:i<l.length):l[i]<1048576:=h _ (aan hi)
theorem gI.eB {l:List Nat} (h:gI l) (i:Nat) {d:Nat} (hd:d<1048576):gI (l.set i d):=by
 intro x hx;rcases List.mem_or_eq_of_mem_set hx with hx|rfl
 (·exact h x hx);exact hd
theorem gI.oy {l:List Nat} (h:gI l) (n:Nat):gI (l.take n):=fun x hx=>h x (List.mem_of_mem_take hx)
theorem gI.NG {l:List Nat} (h:gI l) (n:Nat):gI (l.drop n):=fun x hx=>h x (List.mem_of_mem_drop hx)
theorem gI.app {a b:List Nat} (h:gI a) (k:gI b):gI (a++b):=by
 intro x hx;rcases aar.1 hx with hx|hx
 (·exact h x hx);exact k x hx
theorem gI.zeros (n:Nat):gI (aaw n 0):=fun x hx=>by
 rw[List.eq_of_mem_replicate hx];omega
theorem VW (n:Nat):0<1048576 ^ n:=Nat.pow_pos af
theorem pow_succ' (n:Nat):1048576 ^ (n+1)=1048576*1048576 ^ n:=by rw[Nat.pow_succ,Nat.mul_comm]
theorem mQ:∀ a b:List Nat,val (a++b)=val a+1048576 ^ a.length*val b
 |[],b=>by simp[val]
 |d :: r,b=>by
  have ih:=mQ r b;simp only[List.cons_append,val,ih,List.length_cons,pow_succ',Nat.mul_add,Nat.mul_assoc];omega
theorem xS:∀ n,val (aaw n 0)=0
 |0=>rfl
 |n+1=>by simp[List.replicate_succ,val,xS n]
theorem j5:∀ {l:List Nat},gI l→val l<1048576 ^ l.length
 |[],_=>by simp[val]
 |d :: r,h=>by
  have ih:=j5 h.tail;have hd:=h.head;simp only[val,List.length_cons,pow_succ'];omega
theorem kN {l:List Nat} {i:Nat} (h:i<l.length):l.getD i 0=l[i]:=by simp[h]
theorem gI.get {l:List Nat} (h:gI l) (i:Nat):l.getD i 0<1048576:=by
 rcases Nat.lt_or_ge i l.length with hi|hi
 (·rw[kN hi];exact h.at_ hi);simp[hi]
theorem tJ:∀ (l:List Nat) (i d:Nat) (hi:i<l.length),val (l.set i d)+l.getD i 0*1048576 ^ i=val l+d*1048576 ^ i
 |[],_,_,h=>absurd h ai
 |x :: r,0,d,_=>by simp[val];omega
 |x :: r,i+1,d,h=>by
  have h':i<r.length:=aK;have ih:=tJ r i d h';simp only[List.set_cons_succ,val,List.getD_cons_succ,pow_succ'];have e1:r.getD i 0*(1048576*1048576 ^ i)=1048576*(r.getD i 0*1048576 ^ i):=(by rw[Nat.mul_left_comm]);have e2:d*(1048576*1048576 ^ i)=1048576*(d*1048576 ^ i):=(by rw[Nat.mul_left_comm]);rw[e1,e2];omega
theorem eV (l:List Nat) (i:Nat) (h:i<l.length):val (l.take (i+1))=val (l.take i)+l.getD i 0*1048576 ^ i:=by
 rw[kN h,List.take_succ_eq_append_getElem h,mQ,aaq,Nat.min_eq_left (Nat.le_of_lt h)];simp[val,Nat.mul_comm]
theorem mV (l:List Nat) (i:Nat) (h:i<l.length):val (l.drop i)=l.getD i 0+1048576*val (l.drop (i+1)):=by
 rw[kN h,List.drop_eq_getElem_cons h,val]
theorem kV (l:List Nat) (i:Nat) (h:i≤l.length):val l=val (l.take i)+1048576 ^ i*val (l.drop i):=by
 have:=mQ (l.take i) (l.drop i);rw[List.take_append_drop,aaq,Nat.min_eq_left h]at this;exact this
theorem r7 {l:List Nat} (h:∀ d∈l,d=0):val l=0:=by
 induction l with
 |nil=>rfl
 |cons d r ih=>
  have h0:=h d (List.mem_cons_self ..);have h1:=ih fun x hx=>h x (List.mem_cons_of_mem _ hx);simp[val,h0,h1]
theorem r8:∀ {l:List Nat},val l=0→∀ d∈l,d=0
 |[],_=>fun d h=>by cases h
 |x :: r,h=>fun d hd=>by
  simp only[val]at h;rcases aas.1 hd with rfl|hd
  (·omega);exact r8 af d hd
def gJ (n:Nat):List Nat:=if h:n=0 then[]else n % 1048576 :: gJ (n / 1048576)
termination_by n
decreasing_by omega
theorem gM:gJ 0=[]:=by rw[gJ];simp
theorem tK {n:Nat} (h:n≠0):gJ n=n % 1048576 :: gJ (n / 1048576):=by rw[gJ];simp[h]
theorem jY (n:Nat):val (gJ n)=n:=by
 induction n using Nat.strongRecOn with
 |_ n ih=>
  by_cases h:n=0
  (·subst h;rw[gM];rfl);rw[tK h,val,ih _ af];omega
theorem mR (n:Nat):gI (gJ n):=by
 induction n using Nat.strongRecOn with
 |_ n ih=>
  by_cases h:n=0
  (·subst h;rw[gM];exact gI.nil);rw[tK h];exact gI.cons af (ih _ af)
theorem mW (n:Nat):gJ n=[]↔n=0:=by
 constructor
 (·intro h;have:=jY n;rw[h]at this;simpa [val]using this.symm);rintro rfl;exact gM
def Canon (l:List Nat):Prop:=gI l∧∀ h:l≠[],l.getLast h≠0
theorem qg (n:Nat):Canon (gJ n):=by
 refine⟨mR n,?_⟩;induction n using Nat.strongRecOn with
 |_ n ih=>
  by_cases h:n=0
  (·subst h;intro h;exact absurd gM h);intro hne;by_cases h2:n / 1048576=0
  (·have e:gJ n=[n % 1048576]:=(by rw[tK h,h2,gM]);simp only[e,List.getLast_singleton];omega);have e:=tK h;have h3:gJ (n / 1048576)≠[]:=fun k=>h2 ((mW _).1 k);have:=ih (n / 1048576) af h3;simp only[e];rw[List.getLast_cons h3];exact this
theorem kJ:∀ {l:List Nat},Canon l→l=gJ (val l)
 |[],_=>by rw[val,gM]
 |d :: r,⟨h,hl⟩=>by
  have hd:=h.head;have hr:Canon r:=⟨h.tail,fun hne=>by have:=hl ai;rwa [List.getLast_cons hne]at this⟩;have ih:=kJ hr;have hne:val (d :: r)≠0:=by
   rw[val];intro hz;have h1:d=0:=af;have h2:val r=0:=af;rw[h2,gM]at ih;subst ih;have:=hl ai;simp at this;exact this h1
  rw[tK hne,val];have e1:(d+1048576*val r) % 1048576=d:=af;have e2:(d+1048576*val r) / 1048576=val r:=af;rw[e1,e2, ← ih]
theorem NH {l:List Nat} {n:Nat} (hd:gI l) (hn:n≤l.length) (hz:∀ d∈l.drop n,d=0) (hl:0<n→l.getD (n - 1) 0≠0):l.take n=gJ (val l):=by
 have hv:val l=val (l.take n):=(by rw[kV l n hn,r7 hz];simp);rw[hv];refine kJ ⟨hd.oy n,fun hne=>?_⟩;have h0:0<n:=by
  rcases Nat.eq_zero_or_pos n with rfl|h
  (·simp at hne);exact h
 rw[List.getLast_eq_getElem];have:=hl h0;rw[kN af]at this;simp only[aaq,Nat.min_eq_left hn,List.getElem_take];exact this
theorem tL:∀ {l:List Nat},gI l→∃ k,l=gJ (val l)++aaw k 0
 |[],_=>⟨0,by simp[val,gM]⟩
 |d :: r,h=>by
  obtain⟨k,hk⟩:=tL h.tail;have hd:=h.head;by_cases hz:val (d :: r)=0
  (·rw[hz,gM];refine⟨(d :: r).length,?_⟩;rw[List.nil_append];exact List.eq_replicate_iff.2 ⟨rfl,r8 hz⟩);refine⟨k,?_⟩;rw[tK hz];have e1:val (d :: r) % 1048576=d:=(by simp only[val];omega);have e2:val (d :: r) / 1048576=val r:=(by simp only[val];omega);rw[e1,e2,List.cons_append, ← hk]
theorem tM {l:List Nat} (h:gI l):(gJ (val l)).length≤l.length:=by
 obtain⟨k,hk⟩:=tL h;have:=congrArg List.length hk;simp at this;omega
theorem vN {l:List Nat} (h:gI l):gJ (val l)=l.take (gJ (val l)).length:=by
 obtain⟨k,hk⟩:=tL h;(conv=>rhs;rw[hk]);simp[mQ,xS,jY]
theorem mX {l:List Nat} (h:Canon l) (hne:l≠[]):1048576 ^ (l.length - 1)≤val l:=by
 have hs:=kV l (l.length - 1) af;have hpos:0<l.length:=List.length_pos_iff.2 hne;have hd:=mV l (l.length - 1) af;have hl:=h.2 hne;rw[List.getLast_eq_getElem, ← kN]at hl;have h1:1≤val (l.drop (l.length - 1)):=af;have:=Nat.mul_le_mul_left (1048576 ^ (l.length - 1)) h1;omega
theorem pT {n k:Nat} (h:n<1048576 ^ k):(gJ n).length≤k:=by
 rcases Nat.lt_or_ge k (gJ n).length with hlt|hge
 (·have h1:=mX (qg n) (fun e=>by rw[e]at hlt;simp at hlt);rw[jY]at h1;have h3:1048576 ^ k≤1048576 ^ ((gJ n).length - 1):=Nat.pow_le_pow_right af af;omega);exact hge
theorem kq {m n:Nat} (h:m≤n):(gJ m).length≤(gJ n).length:=by
 refine pT ?_;have:=j5 (mR n);rw[jY]at this;omega
theorem RB {a b:List Nat} (ha:gI a) (hb:Canon b) (h:a.length<b.length):val a<val b:=by
 have h1:=j5 ha;(have hne:b≠[]:=fun e=>by subst e;simp at h);have h2:=mX hb hne;have h3:1048576 ^ a.length≤1048576 ^ (b.length - 1):=Nat.pow_le_pow_right af af;omega
theorem RD {a b:List Nat} (ha:gI a) (hlen:a.length=b.length) (i:Nat) (hi:i<a.length) (hup:a.drop (i+1)=b.drop (i+1)) (hlt:a.getD i 0<b.getD i 0):val a<val b:=by
 rw[kV a i af,kV b i af,mV a i hi,mV b i af,hup];have h1:=j5 (ha.oy i);rw[aaq,Nat.min_eq_left af]at h1;have h2:1048576 ^ i*(a.getD i 0+1048576*val (b.drop (i+1)))+1048576 ^ i≤1048576 ^ i*(b.getD i 0+1048576*val (b.drop (i+1))):=by
  have:1048576 ^ i*(a.getD i 0+1048576*val (b.drop (i+1))+1)≤1048576 ^ i*(b.getD i 0+1048576*val (b.drop (i+1))):=Nat.mul_le_mul_left _ af;rw[Nat.mul_add,Nat.mul_one]at this;exact this
 omega
def vO (x y:Nat):Int:=if x<y then -1 else if x=y then 0 else 1
theorem FT {x y:Nat} (h:x<y):vO x y=-1:=if_pos h
theorem FU {x y:Nat} (h:x=y):vO x y=0:=by unfold vO;rw[if_neg af,if_pos h]
theorem Bl {x y:Nat} (h:y<x):vO x y=1:=by unfold vO;rw[if_neg af,if_neg af]
theorem Y0 (l:List Nat) (i:Nat):l.getD i 0*1048576 ^ i≤val l:=by
 rcases Nat.lt_or_ge i l.length with hi|hi
 (·have:=tJ l i 0 hi;omega);simp[hi]
theorem O2 (out:List Nat) (j x y c n D:Nat) (hj:j<out.length) (h:val out+c*1048576 ^ j=D) (hn:n=out.getD j 0+x*y+c):val (out.set j (n % 1048576))+(n / 1048576)*1048576 ^ (j+1)=D+x*(y*1048576 ^ j):=by
 have hs:=tJ out j (n % 1048576) hj;have e:n % 1048576*1048576 ^ j+n / 1048576*1048576 ^ (j+1)=n*1048576 ^ j:=by
  rw[pow_succ', ← Nat.mul_assoc, ← aaA];congr 1;omega
 have e2:n*1048576 ^ j=out.getD j 0*1048576 ^ j+x*(y*1048576 ^ j)+c*1048576 ^ j:=(by rw[hn,aaA,aaA,Nat.mul_assoc]);omega
theorem O3 (o x y c:Nat) (ho:o<1048576) (hx:x<1048576) (hy:y<1048576) (hc:c<1048576):o+x*y+c<1099511627776∧(o+x*y+c) / 1048576<1048576:=by
 have:x*y≤1048575*1048575:=Nat.mul_le_mul af af;omega
theorem VX (out:List Nat) (m c D:Nat) (hm:m<out.length) (h:val out+c*1048576 ^ m=D) (hD:D<1048576 ^ (m+1)):out.getD m 0+c<1048576∧val (out.set m (out.getD m 0+c))=D:=by
 have hg:=Y0 out m;have hs:=tJ out m (out.getD m 0+c) hm;rw[aaA]at hs;refine⟨?_,by omega⟩;have h1:(out.getD m 0+c)*1048576 ^ m<1048576*1048576 ^ m:=by
  rw[aaA, ← pow_succ'];omega
 exact Nat.lt_of_mul_lt_mul_right h1
theorem O4 {a b:List Nat} {i:Nat} (ha:gI a) (hb:gI b) (hi:i≤a.length):val (a.take i)*val b<1048576 ^ (i+b.length):=by
 have h1:=j5 (ha.oy i);rw[aaq,Nat.min_eq_left hi]at h1;have h2:=j5 hb;rw[Nat.pow_add];exact Nat.mul_lt_mul'' h1 h2
theorem RF (a b:List Nat) (i:Nat) (hi:i<a.length):val (a.take (i+1))*val b=val (a.take i)*val b+a.getD i 0*(1048576 ^ i*val b):=by
 rw[eV a i hi,aaA,Nat.mul_assoc]
theorem RG (b:List Nat) (x i k:Nat) (hk:k<b.length):x*(1048576 ^ i*val (b.take (k+1)))=x*(1048576 ^ i*val (b.take k))+x*(b.getD k 0*1048576 ^ (i+k)):=by
 rw[eV b k hk,Nat.mul_add,Nat.mul_add,Nat.pow_add];congr 2;rw[Nat.mul_left_comm]
theorem Lm (a out:List Nat) (i d r:Nat) (hi:i<a.length) (hl:out.length=a.length) (hr:r<d) (h:val (out.drop (i+1))*d+r=val (a.drop (i+1))):val ((out.set i ((r*1048576+a.getD i 0) / d)).drop i)*d+(r*1048576+a.getD i 0) % d=val (a.drop i):=by
 have e1:val ((out.set i ((r*1048576+a.getD i 0) / d)).drop i)=(r*1048576+a.getD i 0) / d+1048576*val (out.drop (i+1)):=by
  rw[mV _ i au];congr 1
  (·rw[kN au];simp);rw[List.drop_set_of_lt af]
 rw[e1,mV a i hi, ← h,aaA];have e2:=Nat.div_add_mod (r*1048576+a.getD i 0) d;rw[Nat.mul_comm d]at e2;rw[Nat.mul_add,Nat.mul_assoc];omega
theorem Ik (r d x:Nat) (hr:r<d) (hd:d<1048577) (hx:x<1048576):(r*1048576+x) / d<1048576∧r*1048576+x<1099511627776:=by
 refine⟨?_,by omega⟩;rw[Nat.div_lt_iff_lt_mul af];have:(r+1)*1048576≤d*1048576:=aaF _ hr;omega
theorem Ey (a q d r:Nat) (hr:r<d) (h:q*d+r=a):q=a / d∧r=a % d:=by
 subst h;rw[Nat.mul_comm];constructor
 (·rw[Nat.mul_add_div af,Nat.div_eq_of_lt hr];rfl);rw[Nat.mul_add_mod,Nat.mod_eq_of_lt hr]
theorem Il (u:List Nat) (i g y b:Nat) (D:Nat) (hi:i<u.length) (hu:gI u) (hb:b<1048576) (hg:g<1048576) (hy:y<1048576) (E:Nat) (h:val u+E=D+b*1048576 ^ i) (n:Int) (hn:n=(u.getD i 0:Int) - b - (g*y:Nat)):0≤n % 1048576∧0≤-(n / 1048576)∧(-(n / 1048576)).toNat<1048576∧(n % 1048576).toNat<1048576∧val (u.set i (n % 1048576).toNat)+(E+g*(y*1048576 ^ i))=D+(-(n / 1048576)).toNat*1048576 ^ (i+1):=by
 have hx:=hu.get i;have hgy:g*y≤1048575*1048575:=Nat.mul_le_mul af af;generalize hG:g*y=G at hgy hn;refine⟨by omega,by omega,by omega,by omega,?_⟩;have hs:=tJ u i (n % 1048576).toNat hi;have e:(n % 1048576).toNat+b+G=u.getD i 0+(-(n / 1048576)).toNat*1048576:=af;have e2:((n % 1048576).toNat+b+G)*1048576 ^ i=(u.getD i 0+(-(n / 1048576)).toNat*1048576)*1048576 ^ i:=(by rw[e]);rw[aaA,aaA,aaA,Nat.mul_assoc, ← pow_succ']at e2;have e3:g*(y*1048576 ^ i)=G*1048576 ^ i:=(by rw[← hG,Nat.mul_assoc]);rw[e3];omega
theorem Lp (u:List Nat) (i y c:Nat) (D:Nat) (hi:i<u.length) (hu:gI u) (hc:c≤1) (hy:y<1048576) (h:val u+c*1048576 ^ i=D) (n:Nat) (hn:n=c+u.getD i 0+y):n / 1048576≤1∧val (u.set i (n % 1048576))+(n / 1048576)*1048576 ^ (i+1)=D+y*1048576 ^ i:=by
 have hx:=hu.get i;refine⟨by omega,?_⟩;have hs:=tJ u i (n % 1048576) hi;have e:n % 1048576*1048576 ^ i+n / 1048576*1048576 ^ (i+1)=n*1048576 ^ i:=by
  rw[pow_succ', ← Nat.mul_assoc, ← aaA];congr 1;omega
 have e2:n*1048576 ^ i=c*1048576 ^ i+u.getD i 0*1048576 ^ i+y*1048576 ^ i:=(by rw[hn,aaA,aaA]);omega
theorem Lr {u v:List Nat} {g U b:Nat} (hu:gI u) (h:val u+g*val v=U+b*1048576 ^ u.length) (hb:b=0):g*val v≤U∧val u=U - g*val v:=by
 subst hb;omega
theorem Im {u u2:List Nat} {g U V b c:Nat} (hu:gI u) (hu2:gI u2) (hl:u2.length=u.length) (h:val u+g*V=U+b*1048576 ^ u.length) (hb:b≠0) (h2:val u2+c*1048576 ^ u.length=val u+V) (hU:U<1048576 ^ u.length) (hg:g=0∨(g - 1)*V≤U):U<g*V∧0<g∧val u2=U - (g - 1)*V:=by
 have h1:=j5 hu;have h3:=j5 hu2;rw[hl]at h3;have hb1:1048576 ^ u.length≤b*1048576 ^ u.length:=by
  have:=aaF (1048576 ^ u.length) (show 1≤b by omega);omega
 have hlt:U<g*V:=af;have hpos:0<g:=by
  rcases Nat.eq_zero_or_pos g with rfl|h
  (·simp at hlt);exact h
 refine⟨hlt,hpos,?_⟩;have hg':(g - 1)*V≤U:=(by rcases hg with h0|h0;omega;exact h0);have e:g*V=(g - 1)*V+V:=by
  (have:g=(g - 1)+1:=by omega);(conv=>lhs;rw[this,aaA,Nat.one_mul])
 generalize (g - 1)*V=T at hg' e ⊢;have e3:val u2+c*1048576 ^ u.length+T=U+b*1048576 ^ u.length:=af;generalize 1048576 ^ u.length=Q at*;rcases Nat.lt_trichotomy b c with hbc|hbc|hbc
 (·have:=aaF Q (show b+1≤c from hbc);rw[aaA]at this;omega)
 (·subst hbc;omega);have:=aaF Q (show c+1≤b from hbc);rw[aaA]at this;omega
theorem Io (top v1 v0 vl t0 xl B W X V:Nat) (h1:0<v1) (hV:V=(v1*B+v0)*W+vl) (hX:X=(top*B+t0)*W+xl) (ht:t0*W+xl<B*W):X / V≤top / v1:=by
 rw[Nat.le_div_iff_mul_le h1];rcases Nat.lt_or_ge top (X / V*v1)with hlt|hge
 ·exfalso;have h2:=Nat.div_mul_le_self X V;generalize X / V=q at*;have h3:=aaF (B*W) (show top+1≤q*v1 from hlt);subst hV hX;have h4:q*v1*(B*W)≤q*((v1*B+v0)*W+vl):=by
   rw[Nat.mul_assoc];refine Nat.mul_le_mul_left q ?_;rw[aaA, ← Nat.mul_assoc];omega
  have h6:=aaC h4 h2;rw[aaA,Nat.one_mul]at h3;rw[aaA,Nat.mul_assoc top]at h6;generalize q*v1*(B*W)=z at*;generalize top*(B*W)=y at*;generalize B*W=x at*;omega
 exact hge
theorem Lt (g v1 v0 top rest t0 B W X vl xl V:Nat) (hV:V=(v1*B+v0)*W+vl) (hX:X=(top*B+t0)*W+xl) (h3:xl<W) (h:g*v1+rest=top) (h2:rest*B+t0<g*v0) (hp:0<V):X / V<g:=by
 have h5:top*B+t0+1≤g*(v1*B+v0):=by
  subst h;simp only[Nat.mul_add,Nat.mul_comm,Nat.mul_left_comm]at*;omega
 have h6:X<g*V:=by
  have:=aaF W h5;subst hV hX;simp only[Nat.mul_add,Nat.mul_comm,Nat.mul_left_comm,Nat.mul_one]at*;omega
 rw[Nat.div_lt_iff_lt_mul hp];exact h6
theorem O5 (g v1 v0 top rest t0 B W X vl xl V:Nat) (hV:V=(v1*B+v0)*W+vl) (hX:X=(top*B+t0)*W+xl) (hl:vl<W) (hv0:v0<B) (h1:0<v1) (h:g*v1+rest=top) (hg:g<B) (hx:B≤rest∨g*v0≤rest*B+t0):(g - 1)*V≤X:=by
 rcases Nat.eq_zero_or_pos g with rfl|hpos
 (·simp);rcases hx with hx|hx
 ·have h2:g*V≤X:=by
   have e1:g*V≤g*v1*(B*W)+g*(B*W):=by
    rw[Nat.mul_assoc, ← Nat.mul_add];refine Nat.mul_le_mul_left g ?_;subst hV;have:(v0+1)*W≤B*W:=aaF W hv0;rw[aaA]at this;rw[aaA,Nat.mul_assoc];omega
   have e2:g*v1*(B*W)+g*(B*W)≤top*(B*W):=by
    rw[← aaA];exact aaF _ af
   have e3:top*(B*W)≤X:=by
    rw[hX,aaA,Nat.mul_assoc];omega
   omega
  exact aaC (aaF V af) h2
 have e1:g*(v1*B+v0)≤top*B+t0:=by
  subst h;simp only[Nat.mul_add,Nat.mul_comm,Nat.mul_left_comm]at*;omega
 have e2:=aaF W e1;have e3:g*vl≤V:=by
  have e4:g*vl≤B*W:=Nat.mul_le_mul af af;have e5:1*(B*W)≤v1*(B*W):=aaF _ h1;subst hV;rw[aaA,Nat.mul_assoc];omega
 have e6:g*V=g*(v1*B+v0)*W+g*vl:=(by rw[hV,Nat.mul_add,Nat.mul_assoc]);have e7:(g - 1)*V+V=g*V:=by
  (conv=>rhs;rw[show g=(g - 1)+1 by omega,aaA,Nat.one_mul])
 omega
theorem O6 (g X V:Nat) (hV:0<V) (hq:X / V≤g) (h:g=0∨(g - 1)*V≤X):(if g*V≤X then g else g - 1)=X / V:=by
 have h2:=Nat.div_mul_le_self X V;have h3:X<(X / V+1)*V:=by
  rw[aaA,Nat.one_mul];have h4:=Nat.div_add_mod X V;have h5:=Nat.mod_lt X hV;rw[Nat.mul_comm]at h4;generalize X / V*V=y at*;generalize X % V=z at*;omega
 split
 ·next hle=>
  have:g<X / V+1:=Nat.lt_of_mul_lt_mul_right (Nat.lt_of_le_of_lt hle h3);omega
 next hle=>
 have hlt:X<g*V:=af;have h4:X / V<g:=(by rw[Nat.div_lt_iff_lt_mul hV];exact hlt);have h5:(g - 1)*V≤X:=by
  rcases h with h|h
  (·subst h;simp);exact h
 have:g - 1<X / V+1:=Nat.lt_of_mul_lt_mul_right (Nat.lt_of_le_of_lt h5 h3);omega
theorem top2 (v:List Nat) (n:Nat) (hn:v.length=n+2) (hd:gI v):val v=(v.getD (n+1) 0*1048576+v.getD n 0)*1048576 ^ n+val (v.take n)∧val (v.take n)<1048576 ^ n:=by
 have h1:=eV v n af;have h2:=eV v (n+1) af;rw[aax af]at h2;have h3:=j5 (hd.oy n);rw[aaq,Nat.min_eq_left af]at h3;refine⟨?_,h3⟩;rw[h2,h1,pow_succ',aaA,Nat.mul_assoc];omega
theorem top3 (v:List Nat) (n:Nat) (hn:v.length=n+3) (hd:gI v):val v=((v.getD (n+2) 0*1048576+v.getD (n+1) 0)*1048576+v.getD n 0)*1048576 ^ n+val (v.take n)∧val (v.take n)<1048576 ^ n:=by
 have h1:=eV v n af;have h2:=eV v (n+1) af;have h4:=eV v (n+2) af;rw[aax af]at h4;have h3:=j5 (hd.oy n);rw[aaq,Nat.min_eq_left af]at h3;refine⟨?_,h3⟩;have p2:1048576 ^ (n+2)=1048576*(1048576*1048576 ^ n):=(by rw[pow_succ',pow_succ']);rw[h4,h2,h1,p2,pow_succ',aaA,aaA,aaA];simp only[Nat.mul_assoc];omega
structure AW (u v:List Nat) (j n:Nat):Prop where
 hu:gI u
 hv:gI v
 hn:v.length=n+2
 hj:j+n+3≤u.length
 Y1:0<v.getD (n+1) 0
 hlt:val (u.drop (j+1))<val v
section
variable {u v:List Nat} {j n:Nat}
theorem AW.pos (h:AW u v j n):0<val v:=by have:=h.hlt;omega
theorem AW.less (h:AW u v j n):val (u.drop j)<1048576*val v:=by
 have h1:=mV u j (by have:=h.hj;omega);have h2:=h.hu.get j;have h3:=h.hlt;omega
theorem AW.quot (h:AW u v j n):val (u.drop j) / val v<1048576:=by
 rw[Nat.div_lt_iff_lt_mul h.pos];exact h.less
theorem AW.high (h:AW u v j n):∀ d∈u.drop (j+n+3),d=0:=by
 have h1:=h.less;have h2:=j5 h.hv;rw[h.hn]at h2;have hs:=kV (u.drop j) (n+3) (by have:=h.hj;simp;omega);rw[List.drop_drop,show j+(n+3)=j+n+3 by omega]at hs;have h3:1048576*val v<1048576 ^ (n+3):=(by rw[pow_succ' (n+2)];omega);have h4:val (u.drop (j+n+3))=0:=by
  rcases Nat.eq_zero_or_pos (val (u.drop (j+n+3)))with h|h
  (·exact h);have:=Nat.mul_le_mul_left (1048576 ^ (n+3)) h;omega
 exact r8 h4
theorem AW.Y2 (h:AW u v j n):val ((u.drop j).take (n+3))=val (u.drop j):=by
 have hs:=kV (u.drop j) (n+3) (by have:=h.hj;simp;omega);rw[List.drop_drop,show j+(n+3)=j+n+3 by omega,r7 h.high]at hs;omega
theorem AW.form (h:AW u v j n):∃ xl vl,val v=(v.getD (n+1) 0*1048576+v.getD n 0)*1048576 ^ n+vl∧vl<1048576 ^ n∧val (u.drop j)=((u.getD (j+n+2) 0*1048576+u.getD (j+n+1) 0)*1048576+u.getD (j+n) 0)*1048576 ^ n+xl∧xl<1048576 ^ n:=by
 have h2:=top2 v n h.hn h.hv;(have hl:((u.drop j).take (n+3)).length=n+3:=by have:=h.hj;simp;omega);have h3:=top3 _ n hl ((h.hu.NG j).oy _);rw[h.Y2]at h3;refine⟨_,_,h2.1,h2.2,?_,h3.2⟩;have g:∀ k,k<n+3→((u.drop j).take (n+3)).getD k 0=u.getD (j+k) 0:=by
  intro k hk;rw[aam,List.getElem?_take_of_lt hk,List.getElem?_drop, ← aam]
 rw[g _ af,g _ af,g _ af, ← Nat.add_assoc, ← Nat.add_assoc]at h3;exact h3.1
theorem AW.start (h:AW u v j n):val (u.drop j) / val v≤(u.getD (j+n+2) 0*1048576+u.getD (j+n+1) 0) / v.getD (n+1) 0:=by
 obtain⟨xl,vl,hV,hvl,hX,hxl⟩:=h.form;refine Io _ _ _ vl _ xl 1048576 (1048576 ^ n) _ _ h.Y1 hV hX ?_;have:=h.hu.get (j+n);have:=aaF (1048576 ^ n) (show u.getD (j+n) 0+1≤1048576 from this);rw[aaA]at this;omega
theorem AW.more (h:AW u v j n) {g rest:Nat} (hg:g*v.getD (n+1) 0+rest=u.getD (j+n+2) 0*1048576+u.getD (j+n+1) 0) (hm:rest*1048576+u.getD (j+n) 0<g*v.getD n 0):val (u.drop j) / val v<g:=by
 obtain⟨xl,vl,hV,hvl,hX,hxl⟩:=h.form;exact Lt g _ _ _ rest _ 1048576 (1048576 ^ n) _ vl xl _ hV hX hxl hg hm h.pos
theorem AW.stop (h:AW u v j n) {g rest:Nat} (hg:g*v.getD (n+1) 0+rest=u.getD (j+n+2) 0*1048576+u.getD (j+n+1) 0) (hl:g<1048576) (hx:1048576≤rest∨g*v.getD n 0≤rest*1048576+u.getD (j+n) 0):(g - 1)*val v≤val (u.drop j):=by
 obtain⟨xl,vl,hV,hvl,hX,hxl⟩:=h.form;exact O5 g _ _ _ rest _ 1048576 (1048576 ^ n) _ vl xl _ hV hX hvl (h.hv.get n) h.Y1 hg hl hx
def swap (u:List Nat) (j k:Nat) (win:List Nat):List Nat:=u.take j++(win++u.drop (j+k))
theorem RH {win:List Nat} {k:Nat} (hk:win.length=k) (hj:j+k≤u.length):(swap u j k win).length=u.length:=by
 unfold swap;simp[hk];omega
theorem RI {win:List Nat} {k:Nat} (hu:gI u) (hw:gI win):gI (swap u j k win):=(hu.oy j).app (hw.app (hu.NG _))
theorem AW.next (h:AW u v j n) {win q:List Nat} (hw:win.length=n+3) (hval:val win=val (u.drop j) - val (u.drop j) / val v*val v) (hq:j<q.length):val ((swap u j (n+3) win).drop j)<val v∧val (swap u j (n+3) win)+val v*(1048576 ^ j*val ((q.set j (val (u.drop j) / val v)).drop j))=val u+val v*(1048576 ^ (j+1)*val (q.drop (j+1))):=by
 have hj:=h.hj;have hlj:(u.take j).length=j:=au;have hz:val (u.drop (j+(n+3)))=0:=r7 h.high;have e1:(swap u j (n+3) win).drop j=win++u.drop (j+(n+3)):=by
  unfold swap;rw[List.drop_append_of_le_length af,List.drop_of_length_le af,List.nil_append]
 have e2:val ((swap u j (n+3) win).drop j)=val win:=(by rw[e1,mQ,hz];simp);have hdm:=Nat.div_add_mod (val (u.drop j)) (val v);have hml:=Nat.mod_lt (val (u.drop j)) h.pos;rw[Nat.mul_comm]at hdm;have hs:=kV u j af;have e3:val (swap u j (n+3) win)=val (u.take j)+1048576 ^ j*val win:=by
  unfold swap;rw[mQ,hlj,mQ,hz];simp
 have e4:val ((q.set j (val (u.drop j) / val v)).drop j)=val (u.drop j) / val v+1048576*val (q.drop (j+1)):=by
  rw[mV _ j (by simpa using hq)];congr 1
  (·rw[kN (by simpa using hq)];simp);rw[List.drop_set_of_lt af]
 generalize val (u.drop j) / val v=Q at*;generalize val (u.drop j) % val v=R at*;have e5:val win=R:=af;refine⟨by rw[e2];omega,?_⟩;rw[e3,e4,hs, ← hdm,e5,pow_succ'];generalize 1048576 ^ j=T;generalize val (q.drop (j+1))=Z;generalize val v=V;simp only[Nat.mul_add,Nat.mul_comm,Nat.mul_left_comm];omega
end
theorem VY (a b s u q:Nat) (hs:0<s) (h:u+b*s*q=a*s) (hu:u<b*s):q=a / b∧u / s=a % b:=by
 have hb:0<b:=by
  rcases Nat.eq_zero_or_pos b with rfl|h
  (·simp at hu);exact h
 have h1:q=a*s / (b*s)∧u=a*s % (b*s):=Ey (a*s) q (b*s) u hu (by rw[Nat.mul_comm q];omega);rw[Nat.mul_div_mul_right _ _ hs]at h1;rw[Nat.mul_mod_mul_right]at h1;exact⟨h1.1,by rw[h1.2,Nat.mul_div_cancel _ hs]⟩
theorem RJ (x y:Nat):Nat.gcd y (x % y)=Nat.gcd x y:=by
 rw[Nat.gcd_comm x y,Nat.gcd_rec y x,Nat.gcd_comm]
end
section
structure iN where
 sign:Int
 dg:List Int
structure eH where
 p:iN
 q:iN
structure X9 where
 lo:eH
 hi:eH
structure RL where
 key:ByteArray
 note:Int
 value:X9
def jA (l:List Int):List Nat:=l.map Int.toNat
def DY (l:List Int):Bool:=l.all fun d=>decide (0≤d)&&decide (d≤1048575)
def dD (b:iN):Bool:=DY b.dg&&((b.dg.isEmpty&&b.sign==0)||(!b.dg.isEmpty&&(b.sign==1||b.sign==-1)&&b.dg.getLastD 0 != 0))
def dR (b:iN):Nat:=val (jA b.dg)
def pq (s:Int) (n:Nat):iN:=⟨if n=0 then 0 else s,(gJ n).map Int.ofNat⟩
def zB:iN:=⟨0,[]⟩
def zC:eH:=⟨zB,zB⟩
theorem RM (l:List Nat):jA (l.map Int.ofNat)=l:=by
 unfold jA;rw[List.map_map];(conv=>rhs;rw[← List.map_id l]);congr 1
theorem qh (l:List Int):DY l=true↔∀ d∈l,0≤d∧d≤1048575:=by simp[DY]
theorem Ez {l:List Int} (h:DY l=true):(jA l).map Int.ofNat=l:=by
 rw[qh]at h;unfold jA;rw[List.map_map];(conv=>rhs;rw[← List.map_id l]);refine List.map_congr_left fun d hd=>?_;have:=h d hd;simp;omega
theorem RN {l:List Int} (h:DY l=true):gI (jA l):=by
 rw[qh]at h;intro d hd;unfold jA at hd;obtain⟨x,hx,rfl⟩:=aat.1 hd;have:=h x hx;omega
theorem uL {b:iN} (h:dD b=true):DY b.dg=true:=by simp[dD]at h;exact h.1
theorem pE {b:iN} (h:dD b=true):b.sign=-1∨b.sign=0∨b.sign=1:=by
 unfold dD at h;by_cases e:b.dg.isEmpty=true
 (·simp[e]at h;omega);simp[e]at h;omega
theorem vP {b:iN} (h:dD b=true):Canon (jA b.dg):=by
 have hd:=uL h;refine⟨RN hd,fun hne=>?_⟩;have O7:b.dg≠[]:=fun e=>hne (by rw[e];rfl);unfold dD at h;have he:b.dg.isEmpty=false:=(by simpa using O7);rw[he]at h;simp only[aag,Bool.false_and,Bool.false_or,Bool.not_false,Bool.true_and,bne_iff_ne]at h;have hl:=h.2.2;rw[List.getLastD_eq_getLast?,List.getLast?_eq_some_getLast O7]at hl;simp only[Option.getD_some]at hl;have e1:(jA b.dg).getLast hne=(b.dg.getLast O7).toNat:=List.getLast_map ..;rw[e1];have:=(qh _).1 hd _ (List.getLast_mem O7);omega
theorem kW {b:iN} (h:dD b=true):dR b=0↔b.sign=0:=by
 have hc:=kJ (vP h);have hb:=Ez (uL h);unfold dD at h;by_cases e:b.dg.isEmpty=true
 (·have e':b.dg=[]:=(by simpa using e);simp[e']at h;simp[dR,e',jA,val,h]);have e':b.dg≠[]:=(by simpa using e);simp[e']at h;constructor
 (·intro h0;unfold dR at h0;rw[h0,gM]at hc;rw[hc]at hb;exact absurd hb.symm (by simpa using e'));intro h0;omega
theorem vQ (s:Int) (n:Nat):dR (pq s n)=n:=by simp[dR,pq,RM,jY]
theorem mA {s:Int} {n:Nat} (h:s=1∨s=-1):dD (pq s n)=true:=by
 have hd:DY ((gJ n).map Int.ofNat)=true:=by
  rw[qh];intro d hd;obtain⟨x,hx,rfl⟩:=aat.1 hd;have:=mR n x hx;simp;omega
 unfold dD;simp only[pq,hd,Bool.true_and];by_cases e:n=0
 (·subst e;simp[gM]);have hne:gJ n≠[]:=fun k=>e ((mW n).1 k);have hm:(gJ n).map Int.ofNat≠[]:=(by simpa using hne);have hl:=(qg n).2 hne;have he:((gJ n).map Int.ofNat).isEmpty=false:=(by simpa using hne);simp only[he,Bool.false_and,Bool.false_or,Bool.not_false,Bool.true_and,if_neg e,aag,bne_iff_ne];refine⟨by rcases h with h|h<;>simp[h],?_⟩;rw[List.getLastD_eq_getLast?,List.getLast?_eq_some_getLast hm,List.getLast_map];simp;exact hl
theorem Ip (s:Int):pq s 0=zB:=by simp[pq,zB,gM]
theorem zD {s:Int} {n:Nat} (h:s=1∨s=-1∨n=0):dD (pq s n)=true:=by
 rcases h with h|h|h
 (·exact mA (.inl h))
 (·exact mA (.inr h));subst h;rw[Ip];rfl
def rR (a b:iN):iN:=if dD a&&dD b then pq (a.sign*b.sign) (dR a*dR b)else zB
def Y3 (x y:Int):Int:=if x<y then -1 else if x=y then 0 else 1
def DZ (a b:iN):Int:=if dD a&&dD b then(if a.sign=b.sign then a.sign*vO (dR a) (dR b)else Y3 a.sign b.sign)else 0
def dM (f:eH):Bool:=dD f.p&&dD f.q&&f.q.sign==1&&Nat.gcd (dR f.p) (dR f.q)==1
def cmpF (a b:eH):Int:=if dM a&&dM b then DZ (rR a.p b.q) (rR b.p a.q)else 0
def fV (s:X9):Bool:=dM s.lo&&dM s.hi&&decide (cmpF s.lo s.hi≤0)
theorem fM {f:eH} (h:dM f=true):dD f.p=true∧dD f.q=true∧f.q.sign=1∧Nat.gcd (dR f.p) (dR f.q)=1:=by
 simp[dM]at h;exact⟨h.1.1.1,h.1.1.2,h.1.2,h.2⟩
theorem sign_mul {s t:Int} {x y:Nat} (hs:s=-1∨s=0∨s=1) (ht:t=-1∨t=0∨t=1) (hx:x=0↔s=0) (hy:y=0↔t=0):s*t=1∨s*t=-1∨x*y=0:=by
 rcases hs with h|h|h
 ·rcases ht with k|k|k
  (·simp[h,k])
  (·right;right;rw[hy.2 k,Nat.mul_zero]);simp[h,k]
 (·right;right;rw[hx.2 h,Nat.zero_mul]);rcases ht with k|k|k
 (·simp[h,k])
 (·right;right;rw[hy.2 k,Nat.mul_zero]);simp[h,k]
theorem gD {a b:iN} (ha:dD a=true) (hb:dD b=true):dD (rR a b)=true:=by
 have hs:=pE ha;have hs2:=pE hb;have hz:=kW ha;have hz2:=kW hb;unfold rR;simp only[ha,hb,Bool.and_self,if_true];exact zD (sign_mul hs hs2 hz hz2)
section
variable (odd:ByteArray→Bool)
def lastOf (pre:List RL) (key:ByteArray):Option RL:=pre.reverse.find? fun y=>decide (y.key=key)
end
end
end Bg
namespace Go.Proofs.YtfppbjfnllhgcaaGreat
section
open Go Go.RowKit Bg
section
def ji (w:World) (A:Option Addr) (xs:List Value):Prop:=
 xs≠[]→∃ b off,A=some ⟨b,off,none⟩∧b<w.heap.size∧∀ j v,xs[j]? =some v→w.cell? ⟨b,off+j,none⟩=some v
def nv (d:Nat):Value:= .int .i64 (d:Int)
def iv (d:Int):Value:= .int .i64 d
section
variable {w w':World} {A:Option Addr} {xs:List Value}
theorem ji.nil:ji w A []:=fun h=>absurd rfl h
theorem ji.bZ (h:ji w A xs) (hb:Below w.heap.size w w'):ji w' A xs:=fun hn=>by
 obtain⟨b,off,e,hlt,hc⟩:=h hn;exact⟨b,off,e,aaD hlt hb.size,fun j v hv=>(hb.cell (p:=⟨b,off+j,none⟩) hlt).trans (hc j v hv)⟩
theorem ji.drew (h:ji w A xs):ji w.drew A xs:=h
theorem ji.drewN (h:ji w A xs) (n:Nat):ji (w.drewN n) A xs:=h
theorem ji.alloc (h:ji w A xs) (o:Obj):ji (w.alloc o) A xs:=h.bZ ((aaf _ _).alloc aac _)
theorem ji.oy (h:ji w A xs) (n:Nat):ji w A (xs.take n):=fun hn=>by
 obtain⟨b,off,e,hlt,hc⟩:=h (fun e=>hn (by rw[e];simp));refine⟨b,off,e,hlt,fun j v hv=>hc j v ?_⟩;rw[List.getElem?_take]at hv;split at hv
 (·exact hv);cases hv
theorem ji.get (h:ji w A xs) {k:Nat} (hk:k<xs.length):∃ b off,A=some ⟨b,off,none⟩∧b<w.heap.size∧w.cell? ⟨b,off+k,none⟩=some xs[k]:=by
 obtain⟨b,off,e,hlt,hc⟩:=h (fun e=>by subst e;simp at hk);exact⟨b,off,e,hlt,hc k _ (List.getElem?_eq_getElem hk)⟩
end
theorem ji.nat {w:World} {A:Option Addr} {xs:List Nat} (h:ji w A (xs.map nv)) {k:Nat} (hk:k<xs.length):∃ b off,A=some ⟨b,off,none⟩∧b<w.heap.size∧w.cell? ⟨b,off+k,none⟩=some (.int .i64 ((xs.getD k 0:Nat):Int)):=by
 obtain⟨b,off,e,hlt,hc⟩:=h.get (k:=k) (by simpa using hk);refine⟨b,off,e,hlt,hc.trans ?_⟩;simp[nv,hk]
theorem ji.int {w:World} {A:Option Addr} {xs:List Int} (h:ji w A (xs.map iv)) {k:Nat} (hk:k<xs.length):∃ b off,A=some ⟨b,off,none⟩∧b<w.heap.size∧w.cell? ⟨b,off+k,none⟩=some (.int .i64 (xs.getD k 0)):=by
 obtain⟨b,off,e,hlt,hc⟩:=h.get (k:=k) (by simpa using hk);refine⟨b,off,e,hlt,hc.trans ?_⟩;simp[iv,hk]
theorem ji.dg {w:World} {A:Option Addr} {xs:List Nat} (h:ji w A (xs.map nv)) (hd:gI xs) {k:Nat} (hk:k<xs.length):∃ (b off d:Nat),A=some ⟨b,off,none⟩∧b<w.heap.size∧w.cell? ⟨b,off+k,none⟩=some (.int .i64 (d:Int))∧d<1048576∧Hid (xs.getD k 0=d):=by
 obtain⟨b,off,e,hlt,hc⟩:=h.nat hk;exact⟨b,off,_,e,hlt,hc,hd.get k,rfl⟩
def cN (w:World) (g:Nat) (t:TypeId) (cs:List Value):Prop:=w.heap[g]? =some (.cells cs.toArray t (0,0))
section
variable {w w':World} {g:Nat} {t:TypeId} {cs:List Value}
theorem cN.lt (h:cN w g t cs):g<w.heap.size:=by
 rcases Nat.lt_or_ge g w.heap.size with hlt|hge
 (·exact hlt);unfold cN at h;rw[Array.getElem?_eq_none hge]at h;cases h
theorem cN.cell (h:cN w g t cs) (i:Nat):w.cell? ⟨g,i,none⟩=cs[i]? :=by
 rw[cell_of_row w g i cs.toArray t (0,0) h];simp
theorem cN.frozen (h:cN w g t cs) (i:Nat):w.frozen? ⟨g,i,none⟩=false:=by
 unfold cN at h;simp[World.frozen?,h]
theorem cN.drew (h:cN w g t cs):cN w.drew g t cs:=h
theorem cN.drewN (h:cN w g t cs) (n:Nat):cN (w.drewN n) g t cs:=h
theorem cN.alloc (h:cN w g t cs) (o:Obj):cN (w.alloc o) g t cs:=(Below.heap_alloc w o g h.lt).trans h
theorem cN.eB (h:cN w g t cs) (i:Nat) (u:Value):cN (w.setCell ⟨g,i,none⟩ u) g t (cs.set i u):=by
 unfold cN at h ⊢;simp[World.setCell,Array.getElem?_modify,h]
theorem cN.bZ {B:Nat} (h:cN w g t cs) (hb:Below B w w') (hg:g<B):cN w' g t cs:=(hb.block g hg).trans h
theorem cN.arr (h:cN w g t cs):ji w (some ⟨g,0,none⟩) cs:=fun _=>⟨g,0,rfl,h.lt,fun j v hv=>by rw[Nat.zero_add,h.cell];exact hv⟩
theorem cN.nat {xs:List Nat} (h:cN w g t (xs.map nv)) {k:Nat} (hk:k<xs.length):w.cell? ⟨g,k,none⟩=some (.int .i64 ((xs.getD k 0:Nat):Int)):=by
 rw[h.cell];simp[nv,hk]
theorem cN.dg {xs:List Nat} (h:cN w g t (xs.map nv)) (hd:gI xs) {k:Nat} (hk:k<xs.length):∃ d:Nat,w.cell? ⟨g,k,none⟩=some (.int .i64 (d:Int))∧d<1048576∧Hid (xs.getD k 0=d):=
 ⟨_,h.nat hk,hd.get k,rfl⟩
theorem cN.VZ {xs:List Nat} (h:cN w g t (xs.map nv)) (k d:Nat):cN (w.setCell ⟨g,k,none⟩ (.int .i64 (d:Int))) g t ((xs.set k d).map nv):=by
 have:=h.eB k (nv d);rw[List.map_set];exact this
end
def Lu (w:World) (g:Nat) (pre:List Value) (u:List Nat) (post:List Value):Prop:=cN w g 3 (pre++(u.map nv++post))
section
variable {w w':World} {g:Nat} {pre post:List Value} {u:List Nat}
theorem Lu.dg (h:Lu w g pre u post) (hd:gI u) {i:Nat} (hi:i<u.length):∃ d:Nat,w.cell? ⟨g,pre.length+i,none⟩=some (.int .i64 (d:Int))∧d<1048576∧Hid (u.getD i 0=d):=by
 refine⟨u.getD i 0,?_,hd.get i,rfl⟩;rw[cN.cell h,List.getElem?_append_right af,Nat.add_sub_cancel_left,List.getElem?_append_left aX];simp[nv,hi]
theorem Lu.frozen (h:Lu w g pre u post) (i:Nat):w.frozen? ⟨g,i,none⟩=false:=cN.frozen h i
theorem Lu.lt (h:Lu w g pre u post):g<w.heap.size:=cN.lt h
theorem Lu.eB (h:Lu w g pre u post) {i:Nat} (hi:i<u.length) (d:Nat):Lu (w.setCell ⟨g,pre.length+i,none⟩ (.int .i64 (d:Int))) g pre (u.set i d) post:=by
 have:=cN.eB h (pre.length+i) (nv d);rw[List.set_append_right _ _ af,Nat.add_sub_cancel_left,List.set_append_left _ _ aX, ← List.map_set]at this;exact this
end
theorem fJ {a w:World} {g:Nat} (h:a.grownBy w (some g)) (i:Nat) (u:Value):a.grownBy (w.setCell ⟨g,i,none⟩ u) (some g):=
 ⟨h.os,h.tape,h.output,by simpa [World.setCell]using h.size,fun k hk hne=>(aae w ⟨g,i,none⟩ u k (by
  rintro rfl;exact hne rfl)).trans (h.block k hk hne)⟩
theorem ji.grown {w w':World} {A:Option Addr} {xs:List Value} {row:Option Nat} (h:ji w A xs) (hg:w.grownBy w' row) (hne:∀ b o,A=some ⟨b,o,none⟩→some b≠row):ji w' A xs:=fun hn=>by
 obtain⟨b,off,e,hlt,hc⟩:=h hn;exact⟨b,off,e,aaD hlt hg.size,fun j v hv=>(World.cell?_of_block (hg.block b hlt (hne b off e))).trans (hc j v hv)⟩
def r9 (w:World) (g cc n:Nat):Prop:=∃ k,cc=(gJ n).length+k∧cN w g 3 ((gJ n++aaw k 0).map nv)
theorem r9.le {w:World} {g cc n:Nat} (h:r9 w g cc n):(gJ n).length≤cc:=by obtain⟨k,h,_⟩:=h;omega
theorem r9.arr {w:World} {g cc n:Nat} (h:r9 w g cc n):ji w (some ⟨g,0,none⟩) ((gJ n).map nv):=by
 obtain⟨k,h,hb⟩:=h;have:=hb.arr.oy (gJ n).length;rw[← List.map_take,List.take_left' rfl]at this;exact this
theorem r9.of {w:World} {g:Nat} {out:List Nat} (hd:gI out) (h:cN w g 3 (out.map nv)):r9 w g out.length (val out):=by
 obtain⟨k,hk⟩:=tL hd;refine⟨k,?_,by rw[← hk];exact h⟩;have:=congrArg List.length hk;simpa using this
theorem r9.bZ {w w':World} {B g cc n:Nat} (h:r9 w g cc n) (hb:Below B w w') (hg:g<B):r9 w' g cc n:=by
 obtain⟨k,h,hk⟩:=h;exact⟨k,h,hk.bZ hb hg⟩
theorem r9.lt {w:World} {g cc n:Nat} (h:r9 w g cc n):g<w.heap.size:=by
 obtain⟨k,h,hk⟩:=h;exact hk.lt
theorem BM {P:Program} {f:FuncId} {args:Array Value} {w:World} {a n:Nat} {v:Value}
 (h:Calls P f args (w.drewN (a+n)) fun e w'=>e= .returned v∧w.drewN (a+n)=w'):
 Calls P f args (w.drewN (a+n)) fun e w''=>e= .returned v∧∃ m,w''=w.drewN (a+m):=
 h.mono fun _ _ ⟨he,hm⟩=>⟨he,n,hm.symm⟩
theorem mC {B:Nat} {w w':World} {n:Nat} (h:Below B (w.drewN n) w'):Below B w w':=⟨h.os,h.tape,h.output,h.size,h.block⟩
theorem below_drewN {B:Nat} {a w:World} (h:Below B a w) (n:Nat):Below B a (w.drewN n):=⟨h.os,h.tape,h.output,h.size,h.block⟩
theorem EA {A:Option Addr} {n m c:Nat} (h:n=m):Ending.returned (.slice A n c)= .returned (.slice A m c):=by rw[h]
theorem Bn {k:IntKind} {a b:Int} (h:a=b):Ending.returned (.int k a)= .returned (.int k b):=by rw[h]
theorem V0 {a b c d:Value} (h:a=c) (k:b=d):Ending.returned (.tuple #[a,b])= .returned (.tuple #[c,d]):=by rw[h,k]
theorem int_eq {k:IntKind} {a b:Int} (h:a=b):Value.int k a= .int k b:=by rw[h]
theorem cU {a b:Bool} (h:a=b):Ending.returned (.bool a)= .returned (.bool b):=by rw[h]
theorem toNat_ofInt (n:Int):(BitVec.ofInt 64 n).toNat=(n % 18446744073709551616).toNat:=by
 rw[BitVec.toNat_ofInt];rfl
theorem fQ {n:Int} (h:-9223372036854775808≤n∧n≤9223372036854775807):IntKind.i64.wrap n=n:=by
 rw[IntKind.wrap_i64];omega
theorem Iq (n:Int):bits .and .i64 n 1048575=n % 1048576:=by
 show IntKind.i64.wrap ((BitVec.ofInt 64 n&&& BitVec.ofInt 64 1048575).toNat:Int)=_;have e:(BitVec.ofInt 64 1048575).toNat=2 ^ 20 - 1:=ak;rw[BitVec.toNat_and,e,Nat.and_two_pow_sub_one_eq_mod,toNat_ofInt];rw[fQ af];omega
theorem Ir (r x:Nat) (hr:r<8796093022208) (hx:x<1048576):bits .or .i64 ((r:Int)*1048576) (x:Int)=(r:Int)*1048576+(x:Int):=by
 show IntKind.i64.wrap ((BitVec.ofInt 64 ((r:Int)*1048576)|||BitVec.ofInt 64 (x:Int)).toNat:Int)=_;rw[BitVec.toNat_or,toNat_ofInt,toNat_ofInt];have e1:((r:Int)*1048576 % 18446744073709551616).toNat=r<<<20:=(by rw[Nat.shiftLeft_eq];omega);have e2:((x:Int) % 18446744073709551616).toNat=x:=af;rw[e1,e2, ← Nat.shiftLeft_add_eq_or_of_lt af,Nat.shiftLeft_eq,fQ af];omega
theorem Lv (t2 t1 top:Nat) (h:top=t2*1048576+t1) (h2:t2<1048576) (ht1:t1<1048576):bits .or .i64 ((t2:Int)*1048576) (t1:Int)=(top:Int):=by
 rw[Ir t2 t1 af ht1];omega
theorem tN (z:Value) (n:Nat):madeCells #[z] n=(aaw n z).toArray:=by
 unfold madeCells;apply Array.ext
 (·simp);intro i h1 h2;simp[Nat.mod_one]
theorem X_ (o d y c:Nat):(o:Int)+(d:Int)*(y:Int)+(c:Int)=((o+d*y+c:Nat):Int):=by simp
theorem vdiv (o d y c:Nat):((o:Int)+(d:Int)*(y:Int)+(c:Int)) / 1048576=(((o+d*y+c) / 1048576:Nat):Int):=by rw[X_];omega
theorem vmod (o d y c:Nat):((o:Int)+(d:Int)*(y:Int)+(c:Int)) % 1048576=(((o+d*y+c) % 1048576:Nat):Int):=by rw[X_];omega
theorem sdiv (r x d:Nat):((r:Int)*1048576+(x:Int)) / (d:Int)=(((r*1048576+x) / d:Nat):Int):=by rw[Int.natCast_ediv];congr 1
theorem smod (r x d:Nat):((r:Int)*1048576+(x:Int)) % (d:Int)=(((r*1048576+x) % d:Nat):Int):=by rw[Int.natCast_emod];congr 1
end
end
open Go Go.RowKit Go.Maps
section
def kX (v:Value):Option (DataW Value×List MemPlace):=some (.held v,[])
def qR (k:ByteArray):Go.Lit:= .string k.data.toList
theorem nU {k k':ByteArray} (h:k'≠k):qR k'≠qR k:=fun e=>h (by
 unfold qR at e;injection e with e;exact ByteArray.ext (Array.toList_inj.1 e))
theorem isKey (k:ByteArray):WideAt.IsKeyLit (qR k):=by unfold qR;simp[WideAt.IsKeyLit]
def fP (w:World) (g n:Nat) (f:ByteArray→Option Value):Prop:=
 ∃ D:DataW Value,w.ownsMap prog 9 kX g n D∧IsMap D∧∀ k:ByteArray,Maps.has D (qR k)=(f k).isSome∧(∀ v z,f k=some v→D.atKey (qR k) z= .held v)∧(∀ z,f k=none→D.atKey (qR k) z=z)
theorem mD:Keyed prog 9:=string_keyed underlying9
section
variable {w w':World} {g n:Nat} {f:ByteArray→Option Value}
theorem fP.made (w:World):fP (w.alloc (.map #[] 0)) w.heap.size 0 (fun _=>none):=
 ⟨.map [],World.ownsMap_made w _ _ _,⟨[],rfl⟩,fun k=>⟨rfl,fun v z h=>(by cases h),fun z _=>rfl⟩⟩
theorem fP.lt (h:fP w g n f):g<w.heap.size:=by
 obtain⟨D,h1,_⟩:=h;exact h1.lt
theorem fP.bZ {B:Nat} (h:fP w g n f) (hb:Below B w w') (hg:g<B):fP w' g n f:=by
 obtain⟨D,⟨es,clock,hbk,F,hs,hD⟩,h2,h3⟩:=h;exact⟨D,⟨es,clock,(hb.block g hg).trans hbk,F,hs,hD⟩,h2,h3⟩
theorem fP.alloc (h:fP w g n f) (o:Obj):fP (w.alloc o) g n f:=h.bZ ((aaf _ _).alloc aac _) h.lt
theorem fP.drewN (h:fP w g n f) (k:Nat):fP (w.drewN k) g n f:=h
theorem fP.drew (h:fP w g n f):fP w.drew g n f:=h
theorem fP.cF {p:Addr} (h:fP w g n f) (hp:g≠p.block) (u:Value):fP (w.setCell p u) g n f:=by
 obtain⟨D,⟨es,clock,hbk,F,hs,hD⟩,h2,h3⟩:=h;exact⟨D,⟨es,clock,(aae w p u g hp).trans hbk,F,hs,hD⟩,h2,h3⟩
theorem fP.mono {m:Nat} (h:fP w g n f) (hm:n≤m):fP w g m f:=by
 obtain⟨D,h1,h2⟩:=h;exact⟨D,h1.mono hm,h2⟩
end
section
variable (w:World) {ops:Array Oper} {rest:List Oper} {o:Oper} {a:Act} {Q:Exit→Act→World→Prop}
theorem iE (hg:o.guard=none) (m x:Operand) (t:TypeId) (hop:o.op=Op.lookup t m x true) (e:TypeId) (ht:Tryz.prog.underlying t=some (.map 9 e)) {z:Value} (hz:(zeroValue e).run prog w= .ok z w) (b n:Nat) (f:ByteArray→Option Value) (hm:a.eval m= .map (some b)) (hown:fP w b n f) (k:ByteArray) (hx:a.eval x= .string k) (hk:k.size≤maxLen) (u:Value) (hf:f k=some u) (hK:wpList prog ops Q rest (a.put o.dst (.tuple #[u,.bool true])) w):wpList prog ops Q (o :: rest) a w:=by
 obtain⟨D,h1,h2,h3⟩:=hown;obtain⟨p1,p2,p3⟩:=h3 k;refine wpList_lookup_own_ok w hg m x t hop 9 e mD ht kX hz (.held z) [] rfl b n D hm h1 (.string k) (qR k) hx (WideMaps.keyOf_string_mk underlying9 hk) (fun v ps hv=>?_);rw[p2 u _ hf]at hv;rw[p1,hf];injection hv with hv;injection hv with hv _;injection hv with hv;subst hv;exact hK
theorem jl (hg:o.guard=none) (m x:Operand) (t:TypeId) (hop:o.op=Op.lookup t m x true) (e:TypeId) (ht:Tryz.prog.underlying t=some (.map 9 e)) {z:Value} (hz:(zeroValue e).run prog w= .ok z w) (b n:Nat) (f:ByteArray→Option Value) (hm:a.eval m= .map (some b)) (hown:fP w b n f) (k:ByteArray) (hx:a.eval x= .string k) (hk:k.size≤maxLen) (hf:f k=none) (hK:wpList prog ops Q rest (a.put o.dst (.tuple #[z,.bool false])) w):wpList prog ops Q (o :: rest) a w:=by
 obtain⟨D,h1,h2,h3⟩:=hown;obtain⟨p1,p2,p3⟩:=h3 k;refine wpList_lookup_own_ok w hg m x t hop 9 e mD ht kX hz (.held z) [] rfl b n D hm h1 (.string k) (qR k) hx (WideMaps.keyOf_string_mk underlying9 hk) (fun v ps hv=>?_);rw[p3 _ hf]at hv;rw[p1,hf];injection hv with hv;injection hv with hv _;injection hv with hv;subst hv;exact hK
theorem rK (hg:o.guard=none) (m x v:Operand) (t:TypeId) (hop:o.op=Op.mapUpdate t m x v) (e:TypeId) (ht:Tryz.prog.underlying t=some (.map 9 e)) (b n:Nat) (f:ByteArray→Option Value) (hm:a.eval m= .map (some b)) (hown:fP w b n f) (hn:n<maxLen) (k:ByteArray) (u:Value) (hx:a.eval x= .string k) (hv:a.eval v=u) (hk:k.size≤maxLen) (hK:∀ w',fP w' b (n+1) (fun k'=>if k'=k then some u else f k')→w.grownBy w' (some b)→wpList prog ops Q rest (a.put o.dst undef) w'):wpList prog ops Q (o :: rest) a w:=by
 obtain⟨D,h1,h2,h3⟩:=hown;refine wpList_mapUpdate_own w hg m x v t hop 9 e mD ht kX b n D hm h1 hn (.string k) u (qR k) hx hv (WideMaps.keyOf_string_mk underlying9 hk) (.held u) [] rfl (fun w' k1 k2=>hK w' ⟨_,k1,?_,fun k'=>?_⟩ k2)
 (·obtain⟨es,rfl⟩:=h2;exact⟨_,rfl⟩);by_cases hkk:k'=k
 ·subst hkk;simp only[if_true];refine⟨has_put_same h2 (isKey k') _,fun v z h=>?_,fun z h=>?_⟩
  (·have hv:u=v:=Option.some.inj h;rw[← hv];exact atKey_put_same h2 (isKey k') _ _);exact absurd h ai
 simp only[if_neg hkk];obtain⟨p1,p2,p3⟩:=h3 k';exact⟨(has_put_other (nU hkk) _).trans p1,fun v z h=>(atKey_put_other (nU hkk) _ _).trans (p2 v z h),fun z h=>(atKey_put_other (nU hkk) _ _).trans (p3 z h)⟩
end
end
end Go.Proofs.YtfppbjfnllhgcaaGreat
namespace Kb
abbrev Bytes:=List UInt8
def cW (c:UInt8):Bool:=(97≤c&&c≤122)||(65≤c&&c≤90)
def BN (c:UInt8):Bool:=48≤c&&c≤57
def mF (c:UInt8):Bool:=cW c||BN c||c==95
def kD (s:Bytes):Bool:=match s with
 |[]=>false
 |c :: r=>cW c&&decide (r.length+1≤20)&&(c :: r).all mF
def pieces:Bytes→List Bytes
 |[]=>[[]]
 |c :: r=>if c=47 then[] :: pieces r else match pieces r with
  |[]=>[[c]]
  |h :: t=>(c :: h) :: t
def V1 (s:Bytes):Bool:=decide ((pieces s).length≤4)&&(pieces s).all kD
structure NI where
 kind:Int
 person:Int
 day:Int
 obj:ByteArray
theorem NI.ext' {a b:NI} (h1:a.kind=b.kind) (h2:a.person=b.person) (h3:a.day=b.day) (h4:a.obj=b.obj):a=b:=by
 cases a;cases b;simp_all
instance:DecidableEq NI:=fun a b=>
 if h:a.kind=b.kind∧a.person=b.person∧a.day=b.day∧a.obj=b.obj then isTrue (NI.ext' h.1 h.2.1 h.2.2.1 h.2.2.2)
 else isFalse fun e=>h (by subst e;exact⟨rfl,rfl,rfl,rfl⟩)
def NI.o (a:NI):Bytes:=a.obj.data.toList
def dD (a:NI):Bool:=decide (0≤a.kind)&&decide (a.kind<3)&&decide (0≤a.person)&&decide (a.person<1000)&&decide (0≤a.day)&&decide (a.day≤100000)&&V1 a.o
def tO (x y:List NI):Prop:=∀ a,dD a=true→(a∈x↔a∈y)
theorem tO.symm {x y:List NI} (h:tO x y):tO y x:=fun a ha=>(h a ha).symm
def RO (a b:NI):Prop:=a.day<b.day∨a.day=b.day∧(a.kind<b.kind∨a.kind=b.kind∧(a.person<b.person∨a.person=b.person∧a.o<b.o))
instance (a b:NI):Decidable (RO a b):=by unfold RO;infer_instance
def BO (a b j:List NI):Prop:=j.Pairwise RO∧∀ x,x∈j↔dD x=true∧(x∈a∨x∈b)
theorem BO.nil {a b ab:List NI} (h:BO a b ab):BO ab [] ab:=
 ⟨h.1,fun x=>by
  rw[h.2 x];constructor
  (·rintro⟨r,m⟩;exact⟨r,.inl ⟨r,m⟩⟩);rintro⟨r,(⟨_,m⟩|m)⟩
  (·exact⟨r,m⟩);cases m⟩
theorem BO.same {a own:List NI} (h:BO a [] own):tO own a:=fun x hx=>by
 rw[h.2 x];constructor
 ·rintro⟨_,m|m⟩
  (·exact m);cases m
 intro m;exact⟨hx,.inl m⟩
end Kb
namespace Go.Proofs.YtfppbjfnllhgcaaGreat
open Go Go.RowKit Kb
theorem BP (c:UInt8) (w:World):Calls prog 187 #[.int .u8 (c.toNat:Int)] w fun e w'=>e= .returned (.bool (cW c))∧w=w':=by
 (have hb:(c.toNat:Int)<256:=by have:=c.toNat_lt;omega);have e1:cW c=((decide (97≤(c.toNat:Int))&&decide ((c.toNat:Int)≤122))||(decide (65≤(c.toNat:Int))&&decide ((c.toNat:Int)≤90))):=by
  unfold cW;rw[Bool.eq_iff_iff];simp[UInt8.le_iff_toNat_le];omega
 rw[e1];clear e1;generalize (c.toNat:Int)=x at hb ⊢;(by_cases h1:97≤x<;>by_cases h2:x≤122<;>by_cases h3:65≤x<;>by_cases h4:x≤90<;>first|omega|(go_enter func187,ntmps187;go_wp2;go_ret;exact⟨by simp[h1,h2,h3,h4],rfl⟩))
theorem O8 (c:UInt8) (w:World):Calls prog 240 #[.int .u8 (c.toNat:Int)] w fun e w'=>e= .returned (.bool (BN c))∧w=w':=by
 (have hb:(c.toNat:Int)<256:=by have:=c.toNat_lt;omega);have e1:BN c=(decide (48≤(c.toNat:Int))&&decide ((c.toNat:Int)≤57)):=by
  unfold BN;rw[Bool.eq_iff_iff];simp[UInt8.le_iff_toNat_le];omega
 rw[e1];clear e1;generalize (c.toNat:Int)=x at hb ⊢;(by_cases h1:48≤x<;>by_cases h2:x≤57<;>first|omega|(go_enter func240,ntmps240;go_wp2;go_ret;exact⟨by simp[h1,h2],rfl⟩))
theorem O9 (c:UInt8) (w:World):Calls prog 189 #[.int .u8 (c.toNat:Int)] w fun e w'=>e= .returned (.bool (mF c))∧w=w':=by
 have hl:=fun w=>BP c w;have hd:=fun w=>O8 c w;have e1:(c==95)=(((c.toNat:Int))==95):=by
  rw[Bool.eq_iff_iff];simp[← UInt8.toNat_inj];omega
 unfold mF;rw[e1];clear e1;generalize cW c=bl at hl ⊢;generalize BN c=bd at hd ⊢;generalize (c.toNat:Int)=x at hl hd ⊢;have Hl:=aa hl;have Hd:=aa hd;clear hl hd;cases bl<;>cases bd<;>cases h3:(x==95)<;>
  (go_enter func189,ntmps189
   go_wp2_with (first|(go_at_call 187;refine(Hl.o _).mono ?_;rintro e w' ⟨rfl,rfl⟩)|(go_at_call 240;refine(Hd.o _).mono ?_;rintro e w' ⟨rfl,rfl⟩))
   go_ret
   exact⟨by simp,rfl⟩)
theorem eW (s:ByteArray):s.data.toList.length=s.size:=by rw[Array.length_toList];rfl
def jH (p:UInt8→Bool):List UInt8→Nat
 |[]=>0
 |c :: r=>if p c then jH p r+1 else 0
theorem r_ (p:UInt8→Bool):∀ l,jH p l≤l.length
 |[]=>aaB _
 |c :: r=>by
  have:=r_ p r;unfold jH;split<;>simp<;>omega
theorem xT (p:UInt8→Bool):∀ l,(jH p l=l.length)↔l.all p=true
 |[]=>by simp[jH]
 |c :: r=>by
  have:=xT p r;have h2:=r_ p r;unfold jH;by_cases h:p c=true
  (·simp[h]at*;exact this);simp[h]
theorem kO (p:UInt8→Bool):∀ (l:List UInt8) (k:Nat),(∀ i,i<k→∀ c,l[i]? =some c→p c=true)→k≤l.length→(∀ c,l[k]? =some c→p c=false)→jH p l=k
 |[],k,_,h2,_=>by simp at h2;simp[jH,h2]
 |c :: r,0,_,_,h3=>by have:=h3 c rfl;simp[jH,this]
 |c :: r,k+1,h1,h2,h3=>by
  have hc:=h1 0 af c rfl;have:=kO p r k (fun i hi c hc=>h1 (i+1) af c (by simpa using hc)) aI (fun c hc=>h3 c (by simpa using hc));simp[jH,hc,this]
theorem BQ (s:ByteArray) (w:World) (hs:s.size≤maxLen):Calls prog 188 #[.string s,.func (.func 189) #[] #[]] w fun e w'=>e= .returned (.int .i64 (jH mF s.data.toList))∧w=w':=by
 unfold maxLen at hs;go_enter func188,ntmps188;go_wp2;go_loop [5] (fun i=>∃ k:Nat,k≤s.size∧i= .int .i64 k∧Hid (∀ i,i<k→∀ c,s.data.toList[i]? =some c→mF c=true)) (fun i=>s.size - (intOf i).toNat);(case atStart=>exact⟨0,aaG _,rfl,fun i hi=>absurd hi (Nat.not_lt_zero _)⟩);obtain⟨k,hk,rfl,HA⟩:=hrel;by_cases hlt:k<s.size
 ·have hsz:s.data.toList.length=s.size:=eW s;have BR:s.data.toList[k]? =some s[k]:=bq;have HG:=aa BR;have HS:=aa hsz;clear BR hsz;have hin:=fun w=>O9 s[k] w;cases hq:mF s[k]with
  |true=>
   have HQ:=aa hq;rw[hq]at hin;have HI:=aa hin;clear hq hin;go_wp2_with (go_at_call 189;refine(HI.o _).mono ?_;rintro e w' ⟨rfl,rfl⟩);go_round;case rel=>
    refine⟨k+1,by omega,by go_num,fun i hi c hc=>?_⟩;by_cases e:i=k
    (·subst e;rw[HG.o]at hc;cases hc;exact HQ.o);exact HA.o i af c hc
   (case measure=>simp[intOf];omega)
  |false=>
   have HQ:=aa hq;rw[hq]at hin;have HI:=aa hin;clear hq hin;go_wp2_with (go_at_call 189;refine(HI.o _).mono ?_;rintro e w' ⟨rfl,rfl⟩);go_ret;refine⟨?_,rfl⟩;rw[kO mF s.data.toList k HA.o (by rw[HS.o];omega) (fun c hc=>by rw[HG.o]at hc;cases hc;exact HQ.o)];rfl
 have hsz:s.data.toList.length=s.size:=eW s;have HS:=aa hsz;clear hsz;go_wp2;go_ret;refine⟨?_,rfl⟩;rw[kO mF s.data.toList k HA.o (by rw[HS.o];omega) (fun c hc=>by rw[List.getElem?_eq_none (by rw[HS.o];omega)]at hc;cases hc)];rfl
theorem Lx (s:ByteArray) (h:0<s.size):kD s.data.toList=(cW s[0]&&decide (s.size≤20)&&decide (jH mF s.data.toList=s.size)):=by
 have hl:=eW s;have e:s.data.toList=s[0] :: s.data.toList.tail:=by
  (have:s.data.toList[0]? =some s[0]:=by rw[List.getElem?_eq_getElem af];rfl);cases hd:s.data.toList with
  |nil=>rw[hd]at this;cases this
  |cons a b=>rw[hd]at this;simp at this;simp[this]
 have e2:decide (jH mF s.data.toList=s.size)=s.data.toList.all mF:=by
  rw[Bool.eq_iff_iff, ← xT,decide_eq_true_eq,hl]
 rw[e2];generalize s[0]=c at e;have hn:s.data.toList.tail.length+1=s.size:=(by rw[e]at hl;simpa using hl);rw[e];unfold kD;simp only[hn]
theorem si (s:ByteArray) (w:World) (hs:s.size≤maxLen):Calls prog 117 #[.string s] w fun e w'=>e= .returned (.bool (kD s.data.toList))∧w=w':=by
 have hl:=eW s;by_cases h0:s.size=0
 (·have e0:s.data.toList=[]:=aaj af;have e1:s=⟨#[]⟩:=ByteArray.ext (by rw[← Array.toList_inj];exact e0);subst e1;clear e0 h0 hl hs;go_enter func117,ntmps117;go_wp2;go_ret;exact⟨rfl,rfl⟩);have hp:0<s.size:=af;rw[Lx s hp];have hne:s.toList.isEmpty=false:=by
  rw[Bool.eq_false_iff];intro h;rw[List.isEmpty_iff]at h;have:=congrArg List.length h;rw[Lib.toList_data]at this;simp only[List.length_nil]at this;omega
 have hle:=r_ mF s.data.toList;rw[hl]at hle;have Y4:=fun w=>BP s[0] w;have hsp:=fun w=>BQ s w hs;generalize cW s[0]=b at Y4 ⊢;generalize jH mF s.data.toList=n at hsp hle ⊢;have HL:=aa Y4;have NJ:=aa hsp;unfold maxLen at hs;clear Y4 hsp hl;have hlt0:(0:Int)<(s.size:Int):=af;cases b<;>by_cases h20:s.size≤20<;>by_cases hn:n=s.size<;>
  (have hnb:((n:Int)==(s.size:Int))=decide (n=s.size):=by(rw[Bool.eq_iff_iff];simp;omega)
   simp only[hn,decide_true,decide_false]at hnb
   have HN:=aa hn
   clear hn
   go_enter func117,ntmps117
   go_wp2_with (first|(go_at_call 187;refine(HL.o _).mono ?_;rintro e w' ⟨rfl,rfl⟩)|(go_at_call 188;refine(NJ.o _).mono ?_;rintro e w' ⟨rfl,rfl⟩))
   go_ret
   exact⟨by have:=HN.o;simp[h20,this],rfl⟩)
end Go.Proofs.YtfppbjfnllhgcaaGreat
namespace Sh
open Kb
inductive cw where
 |mk (op n:Int) (unit name:ByteArray) (args:List cw)
namespace cw
def op:cw→Int| .mk a _ _ _ _=>a
def n:cw→Int| .mk _ a _ _ _=>a
def unit:cw→ByteArray| .mk _ _ a _ _=>a
def name:cw→ByteArray| .mk _ _ _ a _=>a
def args:cw→List cw| .mk _ _ _ _ a=>a
end cw
structure fR where
 name:ByteArray
 unit:ByteArray
 amount:Int
 house:Int
 port:ByteArray
 version:Int
deriving DecidableEq
structure iT where
 name:ByteArray
 unit:ByteArray
 kind:ByteArray
deriving DecidableEq
structure D1 where
 key:Int
 value:Int
deriving DecidableEq
structure dZ where
 name:ByteArray
 unit:ByteArray
 rows:List D1
deriving DecidableEq
structure eX where
 name:ByteArray
 unit:ByteArray
deriving DecidableEq
structure cL where
 name:ByteArray
 params:List eX
 body:cw
structure fD where
 name:ByteArray
 unit:ByteArray
 kY:cw
structure mY where
 name:ByteArray
 unit:ByteArray
 amount:Int
deriving DecidableEq
structure kP where
 name:ByteArray
 unit:ByteArray
 rule:Int
deriving DecidableEq
structure pF where
 kind:Int
 inp:List ByteArray
 o:List ByteArray
 name:ByteArray
 cells:List ByteArray
 amount:Int
deriving DecidableEq
structure fW where
 kind:ByteArray
 steps:List pF
deriving DecidableEq
structure cK where
 name:ByteArray
 imports:List fR
 inputs:List iT
 tables:List dZ
 funcs:List cL
 cells:List fD
 ei:List mY
 stores:List kP
 cI:List fW
def bs (l:List UInt8):ByteArray:=⟨l.toArray⟩
def words:List Bytes:=[[110,111,116],[105,102],[116,104,101,110],[101,108,115,101],[97,110,100],[111,114],[108,111,111,107],[109,105,110],[109,97,120],[105,110,116,111],[116,111],[97,115]]
def rL (s:ByteArray):Bool:=words.contains s.data.toList
def dY (s:ByteArray):Bool:=kD s.data.toList&& !rL s
def dL (s:Bytes):Option (Nat×Int):=
 if s=[103]then some (0,1)else if s=[116]then some (0,1)else if s=[109]then some (1,1)else if s=[108]then some (1,3)
 else if s=[115]then some (2,1)else if s=[104]then some (2,1)else if s=[100]then some (2,1)else if s=[74]then some (3,1)
 else if s=[87,104]then some (3,1)else if s=[99,101,110,116]then some (4,1)else if s=[101,117,114]then some (4,1)else if s=[112,99]then some (5,1)else none
def pG (c:UInt8):Bool:=c==107||c==77||c==71||c==109
def kZ (s:Bytes):Bool:=s=[103]||s=[109]||s=[108]||s=[115]||s=[74]||s=[87,104]
def iH (s:Bytes):Option (Nat×Int):=match dL s with
 |some x=>some x
 |none=>match s with
  |[]=>none
  |c :: r=>match dL r with
   |none=>none
   |some x=>if pG c&&kZ r then some x else none
structure iP where
 word:Bytes
 exp:Int
deriving DecidableEq
def eZ (s:Bytes):Int×Bytes:=match s with
 |[]=>(1,[])
 |c :: r=>if 50≤c&&c≤57 then((c.toNat:Int) - 48,r)else(1,s)
def lJ:Nat→Bytes→Option (List iP)
 |0,s=>if s=[]then some []else none
 |k+1,s=>match s with
  |[]=>some []
  |g :: r=>
   let w:=r.takeWhile cW
   let y:=eZ (r.dropWhile cW)
   if w=[]|| !(g==42||g==47)then none
   else match lJ k y.2 with
    |none=>none
    |some l=>some (⟨w,if g=47 then -y.1 else y.1⟩ :: l)
def gF (s:Bytes):Option (List iP):=match s with
 |[]=>some []
 |c :: r=>if s.length≤40 then(if c=49 then lJ 40 r else lJ 41 (42 :: s))else none
def RP (d:List Int) (k:Nat) (z:Int):List Int:=d.set k (d.getD k 0+z)
def sj:List iP→List Int→Option (List Int)
 |[],d=>some d
 |x :: l,d=>match iH x.word with
  |none=>none
  |some (k,e)=>sj l (RP d k (e*x.exp))
def dN (d:List Int):Bool:=d.all fun e=>decide (-9≤e)&&decide (e≤9)
def eM:List Int:=[0,0,0,0,0,0]
def jI (s:ByteArray):Int×List Int:=match gF s.data.toList with
 |none=>(12,eM)
 |some l=>match sj l eM with
  |none=>(11,eM)
  |some d=>if dN d then(0,d)else(3,eM)
def cR (s:ByteArray):Bool:=(jI s).1==0
mutual
def cE:cw→Nat
 | .mk _ _ _ _ l=>1+cT l
def cT:List cw→Nat
 |[]=>0
 |x :: l=>cE x+cT l
end
mutual
def iI:cw→Nat
 | .mk _ _ _ _ l=>1+iq l
def iq:List cw→Nat
 |[]=>0
 |x :: l=>max (iI x) (iq l)
end
def jB (c:UInt8):Bool:=32≤c&&c≤126
def kQ (s:ByteArray):Bool:=decide (s.size≤400)&&s.data.toList.all jB
def BS (op:Int):Bool:=(decide (6≤op)&&decide (op≤9))||(decide (12≤op)&&decide (op≤15))
def jJ (s:ByteArray):Bool:=s.size==0
def qi (op n:Int) (unit name:ByteArray) (k:Nat):Bool:=
 if op=0 then kQ unit&&decide (0≤n)&&decide (n≤1099511627776)&&jJ name&&k==0
 else if !(n==0)|| !jJ unit then false
 else if op=1 then dY name&&k==0
 else if op=2 then dY name&&k==1
 else if op=3 then dY name&&decide (1≤k)&&decide (k≤6)
 else if op=4 then jJ name&&k==1
 else if op=5 then jJ name&&k==3
 else if op=10||op=11 then jJ name&&k==2
 else BS op&&jJ name&&k==2
mutual
def gK:cw→Bool
 | .mk op n unit name l=>qi op n unit name l.length&&lK l
def lK:List cw→Bool
 |[]=>true
 |x :: l=>gK x&&lK l
end
def fB (x:cw):Bool:=(decide (cE x≤200)&&decide (iI x≤20))&&gK x
def RQ (n:Int):Bool:=decide (-1099511627776≤n)&&decide (n≤1099511627776)
def pH:Option Int→List D1→Bool
 |_,[]=>true
 |last,r :: l=>RQ r.key&&RQ r.value&&(match last with|none=>true|some k=>decide (k<r.key))&&pH (some r.key) l
def gG (t:dZ):Bool:=cR t.unit&&kD t.name.data.toList&&decide (t.rows.length≤100)&&pH none t.rows
def eG (n:Int):Bool:=decide (1≤n)&&decide (n≤1099511627776)
def ez (l:List ByteArray) (low high:Nat):Bool:=decide (low≤l.length)&&decide (l.length≤high)&&l.all dY
structure Y5 where
 word:Bytes
 in0:Nat
 in1:Nat
 Y6:Nat
 V2:Nat
 name:Bool
 cells:Bool
 FV:Bool
def shapeOf (k:Int):Y5:=
 if k=0 then⟨[109,101,116,101,114],0,0,1,1,true,false,false⟩
 else if k=1 then⟨[116,97,107,101],0,0,1,1,true,false,false⟩
 else if k=2 then⟨[100,114,97,119],0,0,1,1,true,false,true⟩
 else if k=3 then⟨[115,112,108,105,116],1,1,1,100,false,true,false⟩
 else if k=4 then⟨[106,111,105,110],1,100,1,1,false,false,false⟩
 else if k=5 then⟨[103,105,118,101],1,1,0,0,true,false,false⟩
 else if k=6 then⟨[112,117,116],1,1,0,0,true,false,true⟩
 else if k=7 then⟨[108,111,115,101],1,1,0,0,true,false,false⟩
 else⟨[114,101,115,116],1,1,0,0,false,false,false⟩
def iJ (x:pF):Bool:=
 if x.kind<0∨9≤x.kind then false else
 let s:=shapeOf x.kind
 let n:=if s.cells then x.o.length else 0
 ez x.inp s.in0 s.in1&&ez x.o s.Y6 s.V2&&ez x.cells n n&&(if s.name then dY x.name else jJ x.name)&&(if s.FV then eG x.amount else x.amount==0)
def gL (x:fR):Bool:=eG x.amount&&decide (0≤x.house)&&decide (x.house<400)&&decide (0≤x.version)&&decide (x.version≤2000)&&dY x.port
def jC (x:iT):Bool:=jJ x.kind||dY x.kind
def nG (x:kP):Bool:=decide (0≤x.rule)&&decide (x.rule<3)
def nH (p:eX):Bool:=dY p.name&&cR p.unit
def mZ (f:cL):Bool:=f.params.all nH&&(decide (1≤f.params.length)&&decide (f.params.length≤6)&&fB f.body)
def nR (c:fD):Bool:=cR c.unit&&fB c.kY
abbrev K_:=ByteArray×Bool
def gP (s:cK):List K_:=
 s.imports.map (fun x=>(x.name,cR x.unit&&gL x))++s.inputs.map (fun x=>(x.name,cR x.unit&&jC x))++
 s.ei.map (fun x=>(x.name,cR x.unit&&eG x.amount))++s.stores.map (fun x=>(x.name,cR x.unit&&nG x))
def iA (s:cK):List K_:=
 s.tables.map (fun x=>(x.name,gG x))++s.funcs.map (fun x=>(x.name,mZ x))++s.cells.map (fun x=>(x.name,nR x))
def uses (s:cK):List K_:=gP s++iA s
def pU (seen:List ByteArray):List K_→Bool
 |[]=>true
 |(n,b) :: l=>b&&dY n&& !seen.contains n&&pU (n :: seen) l
def fZ (x:fW):Bool:=decide (x.steps.length≤100)&&x.steps.all iJ
def fV (s:cK):Bool:=
 dY s.name&&pU [] (uses s)&&decide ((uses s).length+s.cI.length≤100)&&pU [] (s.cI.map fun x=>(x.kind,fZ x))
end Sh
section
open Go Go.RowKit Sh
theorem cS {w:World} (o:Obj):Below w.heap.size w (w.alloc o):=(aaf _ _).alloc aac o
structure MacI where
def bU:MacI:=⟨⟩
instance:CoeFun MacI (fun _=>Int→Value):=⟨fun _=>.int .i64⟩
instance:Coe World Nat:=⟨fun w=>w.heap.size⟩
structure MacZ where
def cD:MacZ:=⟨⟩
instance:CoeDep MacZ cD Value:=⟨.slice none 0 0⟩
structure Y7 where
def BU:Y7:=⟨⟩
instance:CoeDep Y7 BU (List Value):=⟨[.string ⟨#[]⟩,.slice none 0 0,.slice none 0 0,.slice none 0 0,.slice none 0 0,.slice none 0 0,.slice none 0 0,.slice none 0 0,.slice none 0 0]⟩
structure MacL where
def bW:MacL:=⟨⟩
instance:CoeFun MacL (fun _=>Option Addr→Nat→Nat→Value):=⟨fun _=>.slice⟩
structure MacW where
def bV:MacW:=⟨⟩
instance:CoeFun MacW (fun _=>ByteArray→Value):=⟨fun _=>.string⟩
instance:CoeDep Y7 BU (Array Value):=⟨#[.string ⟨#[]⟩,.slice none 0 0,.slice none 0 0,.slice none 0 0,.slice none 0 0,.slice none 0 0,.slice none 0 0,.slice none 0 0,.slice none 0 0]⟩
structure Y8 (p k:Nat) where
def bY (p k:Nat):Y8 p k:=⟨⟩
instance {p k:Nat}:CoeOut (Y8 p k) Addr:=⟨fun _=>⟨p,k,none⟩⟩
instance {p k:Nat}:CoeOut (Y8 p k) (Option Addr):=⟨fun _=>some ⟨p,k,none⟩⟩
instance {α:Type}:CoeOut (List α) Nat:=⟨List.length⟩
structure Y9 (w:World) (p k:Nat) (v:Value) where
def b_ (w:World) (p k:Nat) (v:Value):Y9 w p k v:=⟨⟩
instance {w:World} {p k:Nat} {v:Value}:CoeSort (Y9 w p k v) Prop:=⟨fun _=>w.cell? ⟨p,k,none⟩=some v⟩
instance {w:World} {p k:Nat} {v:Value}:CoeOut (Y9 w p k v) Prop:=⟨fun _=>w.cell? ⟨p,k,none⟩=some v⟩
structure Y_ (s:cK) (A1 A2 A3 A4 A5 A6 A7 A8:Option Addr) (q1 q2 q3 q4 q5 q6 q7 q8:Nat) where
def g_ (s:cK) (A1 A2 A3 A4 A5 A6 A7 A8:Option Addr) (q1 q2 q3 q4 q5 q6 q7 q8:Nat):Y_ s A1 A2 A3 A4 A5 A6 A7 A8 q1 q2 q3 q4 q5 q6 q7 q8:=⟨⟩
instance {s:cK} {A1 A2 A3 A4 A5 A6 A7 A8:Option Addr} {q1 q2 q3 q4 q5 q6 q7 q8:Nat}:CoeOut (Y_ s A1 A2 A3 A4 A5 A6 A7 A8 q1 q2 q3 q4 q5 q6 q7 q8) (List Value):=⟨fun _=>[.string s.name,.slice A1 s.imports.length q1,.slice A2 s.inputs.length q2,.slice A3 s.tables.length q3,.slice A4 s.funcs.length q4,.slice A5 s.cells.length q5,.slice A6 s.ei.length q6,.slice A7 s.stores.length q7,.slice A8 s.cI.length q8]⟩
instance {s:cK} {A1 A2 A3 A4 A5 A6 A7 A8:Option Addr} {q1 q2 q3 q4 q5 q6 q7 q8:Nat}:CoeOut (Y_ s A1 A2 A3 A4 A5 A6 A7 A8 q1 q2 q3 q4 q5 q6 q7 q8) (Array Value):=⟨fun _=>#[.string s.name,.slice A1 s.imports.length q1,.slice A2 s.inputs.length q2,.slice A3 s.tables.length q3,.slice A4 s.funcs.length q4,.slice A5 s.cells.length q5,.slice A6 s.ei.length q6,.slice A7 s.stores.length q7,.slice A8 s.cI.length q8]⟩
end
namespace Sh
open Kb Go.Lib
structure Tok where
 kind:Int
 text:ByteArray
 n:Int
deriving DecidableEq
def escB (s:Bytes):Bytes:=34 :: s.flatMap (fun c=>if c=34∨c=92 then[92,c]else[c])++[34]
def oz (l:List UInt8):Tok:=⟨3,bs l,0⟩
def rM (s:ByteArray):Tok:=⟨0,s,0⟩
def strT (s:ByteArray):Tok:=⟨2,s,0⟩
def oA (n:Int):Tok:=⟨1,bs (itoa n),n⟩
def operT (op:Int):Tok:=
 if op=6 then oz [43]else if op=7 then oz [45]else if op=8 then oz [42]else if op=9 then oz [47]
 else if op=12 then oz [60]else if op=13 then oz [61]else if op=14 then rM (bs [97,110,100])else rM (bs [111,114])
def atomT (a:Int×List Tok):List Tok:=if BS a.1||a.1==4||a.1==5 then oz [40] :: a.2++[oz [41]]else a.2
def RR:List (Int×List Tok)→List Tok
 |[]=>[]
 |[a]=>a.2
 |a :: b :: l=>a.2++oz [44] :: RR (b :: l)
def NK (l:List (Int×List Tok)):List Tok:=RR l++[oz [41]]
def O_ (l:List (Int×List Tok)) (k:Nat):List Tok:=atomT (l.getD k (0,[]))
def jK (op n:Int) (unit name:ByteArray) (l:List (Int×List Tok)):List Tok:=
 if op=0 then oA n :: (if jJ unit then[]else[strT unit])
 else if op=1 then[rM name]
 else if op=2 then[rM (bs [108,111,111,107]),oz [40],rM name,oz [44]]++NK l
 else if op=3 then[rM name,oz [40]]++NK l
 else if op=10 then[rM (bs [109,105,110]),oz [40]]++NK l
 else if op=11 then[rM (bs [109,97,120]),oz [40]]++NK l
 else if op=4 then rM (bs [110,111,116]) :: O_ l 0
 else if op=5 then rM (bs [105,102]) :: O_ l 0++rM (bs [116,104,101,110]) :: O_ l 1++rM (bs [101,108,115,101]) :: O_ l 2
 else O_ l 0++operT op :: O_ l 1
def zeroE:cw:= .mk 0 0 (bs []) (bs []) []
def xU (s:cK):List ByteArray:=
 s.imports.map (·.name)++s.inputs.map (·.name)++s.tables.map (·.name)++s.funcs.map (·.name)++s.cells.map (·.name)++s.ei.map (·.name)++s.stores.map (·.name)
end Sh
namespace Go.Proofs.YtfppbjfnllhgcaaGreat
section
open Go Go.RowKit Kb Sh
theorem dJ {s t:ByteArray} (h:s.data.toList=t.data.toList):s=t:=ByteArray.ext (Array.toList_inj.1 h)
theorem fS {s:ByteArray} {l:List UInt8} (h:¬s=⟨l.toArray⟩):(s.toList==l)=false:=by
 rw[Bool.eq_false_iff,Lib.toList_data];intro e;exact h (dJ (eq_of_beq e))
theorem cZ {a b:Bool} (h:a=b):Ending.returned (.bool a)= .returned (.bool b):=by rw[h]
theorem sk (s:ByteArray) (w:World):Calls prog 118 #[bV s] w fun e w'=>e= .returned (.bool (rL s))∧w=w':=by
 by_cases NM:s=⟨#[110,111,116]⟩
 (·subst NM;go_enter func118,ntmps118;go_wp2;go_ret;exact⟨rfl,rfl⟩);by_cases V3:s=⟨#[105,102]⟩
 (·subst V3;go_enter func118,ntmps118;go_wp2;go_ret;exact⟨rfl,rfl⟩);by_cases FW:s=⟨#[116,104,101,110]⟩
 ·subst FW
  go_enter func118,ntmps118;go_wp2;go_ret;exact⟨rfl,rfl⟩
 by_cases FX:s=⟨#[101,108,115,101]⟩
 ·subst FX
  go_enter func118,ntmps118;go_wp2;go_ret;exact⟨rfl,rfl⟩
 by_cases NN:s=⟨#[97,110,100]⟩
 (·subst NN;go_enter func118,ntmps118;go_wp2;go_ret;exact⟨rfl,rfl⟩);by_cases V4:s=⟨#[111,114]⟩
 (·subst V4;go_enter func118,ntmps118;go_wp2;go_ret;exact⟨rfl,rfl⟩);by_cases FY:s=⟨#[108,111,111,107]⟩
 (·subst FY;go_enter func118,ntmps118;go_wp2;go_ret;exact⟨rfl,rfl⟩);by_cases NP:s=⟨#[109,105,110]⟩
 (·subst NP;go_enter func118,ntmps118;go_wp2;go_ret;exact⟨rfl,rfl⟩);by_cases NQ:s=⟨#[109,97,120]⟩
 (·subst NQ;go_enter func118,ntmps118;go_wp2;go_ret;exact⟨rfl,rfl⟩);by_cases FZ:s=⟨#[105,110,116,111]⟩
 (·subst FZ;go_enter func118,ntmps118;go_wp2;go_ret;exact⟨rfl,rfl⟩);by_cases V5:s=⟨#[116,111]⟩
 (·subst V5;go_enter func118,ntmps118;go_wp2;go_ret;exact⟨rfl,rfl⟩);by_cases V6:s=⟨#[97,115]⟩
 (·subst V6;go_enter func118,ntmps118;go_wp2;go_ret;exact⟨rfl,rfl⟩);have e0:(s.toList==[110,111,116])=false:=fS NM;have e1:(s.toList==[105,102])=false:=fS V3;have e2:(s.toList==[116,104,101,110])=false:=fS FW
 have e3:(s.toList==[101,108,115,101])=false:=fS FX
 have e4:(s.toList==[97,110,100])=false:=fS NN;have e5:(s.toList==[111,114])=false:=fS V4;have e6:(s.toList==[108,111,111,107])=false:=fS FY;have e7:(s.toList==[109,105,110])=false:=fS NP;have e8:(s.toList==[109,97,120])=false:=fS NQ;have e9:(s.toList==[105,110,116,111])=false:=fS FZ;have e10:(s.toList==[116,111])=false:=fS V5;have e11:(s.toList==[97,115])=false:=fS V6;have HN:=aa (show rL s=false by
  unfold rL words;rw[Bool.eq_false_iff];intro h;simp only[List.contains_cons,List.contains_nil,Bool.or_false,Bool.or_eq_true,beq_iff_eq]at h;rcases h with h|h|h|h|h|h|h|h|h|h|h|h
  (·exact NM (dJ h))
  (·exact V3 (dJ h))
  (·exact FW (dJ h))
  (·exact FX (dJ h))
  (·exact NN (dJ h))
  (·exact V4 (dJ h))
  (·exact FY (dJ h))
  (·exact NP (dJ h))
  (·exact NQ (dJ h))
  (·exact FZ (dJ h))
  (·exact V5 (dJ h));exact V6 (dJ h))
 clear NM V3 FW FX NN V4 FY NP NQ FZ V5 V6;go_enter func118,ntmps118;go_wp2;go_ret;exact⟨cZ HN.o.symm,rfl⟩
theorem Pa (s:ByteArray) (w:World) (hs:s.size≤maxLen):Calls prog 253 #[bV s] w fun e w'=>e= .returned (.bool (dY s))∧w=w':=by
 have h1:=fun W=>si s W hs;have h2:=fun W=>sk s W;unfold dY;generalize kD s.data.toList=a at h1 ⊢;generalize rL s=b at h2 ⊢;have H1:=aa h1;have H2:=aa h2;clear h1 h2 hs;cases a<;>cases b<;>
  (go_enter func253,ntmps253
   go_wp2_with (first|(go_at_call 117;refine(H1.o _).mono ?_;rintro e w' ⟨rfl,rfl⟩)|(go_at_call 118;refine(H2.o _).mono ?_;rintro e w' ⟨rfl,rfl⟩))
   go_ret
   exact⟨rfl,rfl⟩)
theorem kR (s:ByteArray) (w:World) (hs:s.size≤maxLen):Calls prog 73 #[bV s] w fun e w'=>e= .returned (.bool (dY s))∧w=w':=by
 have h1:=fun W=>si s W hs;have h2:=fun W=>sk s W;unfold dY;generalize kD s.data.toList=a at h1 ⊢;generalize rL s=b at h2 ⊢;have H1:=aa h1;have H2:=aa h2;clear h1 h2 hs;cases a<;>cases b<;>
  (go_enter func73,ntmps73
   go_wp2_with (first|(go_at_call 117;refine(H1.o _).mono ?_;rintro e w' ⟨rfl,rfl⟩)|(go_at_call 118;refine(H2.o _).mono ?_;rintro e w' ⟨rfl,rfl⟩))
   go_ret
   exact⟨rfl,rfl⟩)
end
open Go Go.RowKit Go.Maps Sh Kb
section
theorem Lz (a b:ByteArray):(a==b)=decide (a=b):=by
 cases a with
 |mk x=>
  cases b with
  |mk y=>
   have h:((ByteArray.mk x)==(ByteArray.mk y))=(x==y):=rfl;rw[h];by_cases e:x=y
   (·subst e;simp);have e2:¬ByteArray.mk x=ByteArray.mk y:=fun k=>e (by injection k);rw[decide_eq_false e2];simpa using e
instance:LawfulBEq ByteArray where
 eq_of_beq h:=by rw[Lz]at h;exact of_decide_eq_true h
 rfl:=fun {a}=>by rw[Lz];simp
def gQ (w:World) (g:Nat) (l:List ByteArray):Prop:=
 ∃ D:DataW Value,w.ownsMap prog 9 kX g l.length D∧Tidy D∧(∀ k:ByteArray,Maps.has D (qR k)=l.contains k)∧(∀ k:ByteArray,l.contains k=true→∀ z,D.atKey (qR k) z= .held (.bool true))∧
  (∀ k:ByteArray,l.contains k=false→∀ z,D.atKey (qR k) z=z)∧(l.Nodup→Maps.size D=l.length)
section
variable {w w':World} {g:Nat} {l:List ByteArray}
theorem gQ.made (w:World):gQ (w.alloc (.map #[] 0)) w []:=
 ⟨.map [],World.ownsMap_made w _ _ _,⟨[],rfl,by simp⟩,fun k=>rfl,fun k h=>by simp at h,fun k _ z=>rfl,fun _=>rfl⟩
theorem gQ.lt (h:gQ w g l):g<w.heap.size:=by
 obtain⟨D,h1,_⟩:=h;exact h1.lt
theorem gQ.of_block (h:gQ w g l) (hb:w'.heap[g]? =w.heap[g]?):gQ w' g l:=by
 obtain⟨D,⟨es,clock,hbk,F,hs,hD⟩,h2⟩:=h;exact⟨D,⟨es,clock,hb.trans hbk,F,hs,hD⟩,h2⟩
theorem gQ.bZ {B:Nat} (h:gQ w g l) (hb:Below B w w') (hg:g<B):gQ w' g l:=h.of_block (hb.block g hg)
theorem gQ.alloc (h:gQ w g l) (o:Obj):gQ (w.alloc o) g l:=h.bZ (cS _) h.lt
theorem gQ.cF {p:Addr} (h:gQ w g l) (hp:g≠p.block) (u:Value):gQ (w.setCell p u) g l:=h.of_block (aae w p u g hp)
theorem EB (w:World):(zeroValue 4).run prog w= .ok (.bool false) w:=by kernel_rfl
theorem gQ.look (h:gQ w g l) (k:ByteArray) (hk:k.size≤maxLen):(Instr.lookup 128 (.map (some g)) (bV k) false).run prog w= .ok (.bool (l.contains k)) w:=by
 obtain⟨D,h1,h2,h3,h4,h5,h6⟩:=h;obtain⟨v,ps,hr,hv⟩:=h1.lookup mD underlying128 (EB w) (R:=kX) (zd:= .held (.bool false)) (zp:=[]) rfl (WideMaps.keyOf_string_mk underlying9 hk);rw[hr];simp only[kX,Option.some.injEq,Prod.mk.injEq]at hv;obtain⟨hv,_⟩:=hv;cases hc:l.contains k with
 |true=>exact DataW.held.inj (hv.trans (h4 k hc _))▸rfl
 |false=>exact DataW.held.inj (hv.trans (h5 k hc _))▸rfl
theorem gQ.len (h:gQ w g l) (hn:l.Nodup) (ty:TypeId):(Builtin.len_ #[128] ty #[.map (some g)]).run prog w= .ok (bU (l.length:Int)) w:=by
 obtain⟨D,h1,h2,h3,h4,h5,h6⟩:=h;rw[h1.len underlying128 ty,h6 hn]
end
section
variable (w:World) {ops:Array Oper} {rest:List Oper} {o:Oper} {a:Act} {Q:Exit→Act→World→Prop}
theorem iW (hg:o.guard=none) (m x v:Operand) (t:TypeId) (hop:o.op=Op.mapUpdate t m x v) (ht:Tryz.prog.underlying t=some (.map 9 4)) (b:Nat) (l:List ByteArray) (hm:a.eval m= .map (some b)) (hown:gQ w b l) (hn:l.length<maxLen) (k:ByteArray) (hx:a.eval x=bV k) (hv:a.eval v= .bool true) (hk:k.size≤maxLen) (hK:∀ w',gQ w' b (k :: l)→w.grownBy w' (some b)→wpList prog ops Q rest (a.put o.dst undef) w'):wpList prog ops Q (o :: rest) a w:=by
 obtain⟨D,h1,h2,h3,h4,h5,h6⟩:=hown;refine wpList_mapUpdate_own w hg m x v t hop 9 4 mD ht kX b l.length D hm h1 hn (bV k) (.bool true) (qR k) hx hv (WideMaps.keyOf_string_mk underlying9 hk) (.held (.bool true)) [] rfl (fun w' hw hgr=>hK w' ⟨_,hw,h2.put (isKey k) _,fun k'=>?_,fun k' hc z=>?_,fun k' hc z=>?_,fun hnd=>?_⟩ hgr)
 ·by_cases hkk:k'=k
  (·subst hkk;rw[has_put_same h2.isMap (isKey k') _];simp);rw[has_put_other (nU hkk) _,h3 k'];simp[hkk]
 ·by_cases hkk:k'=k
  (·subst hkk;exact atKey_put_same h2.isMap (isKey k') _ _);rw[atKey_put_other (nU hkk) _ _];exact h4 k' (by simpa [hkk]using hc) z
 ·by_cases hkk:k'=k
  (·subst hkk;simp at hc);rw[atKey_put_other (nU hkk) _ _];exact h5 k' (by simpa [hkk]using hc) z
 rw[size_put h2 _,h3 k];rw[List.nodup_cons]at hnd;(have:l.contains k=false:=by simpa using hnd.1);simp[h6 hnd.2,hnd.1]
end
def iZ (w:World) (g m:Nat) (l:List ByteArray) (ok:Bool):Prop:=cN w g 145 [.map (some m),.bool ok]∧gQ w m l∧g≠m
def Two (g m:Nat) (w w':World):Prop:=w'.os=w.os∧w'.tape=w.tape∧w'.output=w.output∧w.heap.size≤w'∧∀ b,b<w.heap.size→b≠g→b≠m→w'.heap[b]? =w.heap[b]?
theorem Two.refl (g m:Nat) (w:World):Two g m w w:=⟨rfl,rfl,rfl,aaB _,fun _ _ _ _=>rfl⟩
theorem Two.trans {g m:Nat} {w w' w'':World} (h:Two g m w w') (k:Two g m w' w''):Two g m w w'':=
 ⟨k.1.trans h.1,k.2.1.trans h.2.1,k.2.2.1.trans h.2.2.1,aaC h.2.2.2.1 k.2.2.2.1,fun b hb h1 h2=>(k.2.2.2.2 b (aaD hb h.2.2.2.1) h1 h2).trans (h.2.2.2.2 b hb h1 h2)⟩
theorem Two.cA {g m:Nat} {w w':World} (h:Below w w w'):Two g m w w':=⟨h.os,h.tape,h.output,h.size,fun b hb _ _=>h.block b hb⟩
theorem Two.fE {g m:Nat} {w w':World} (h:w.grownBy w' (some m)):Two g m w w':=⟨h.os,h.tape,h.output,h.size,fun b hb _ hm=>h.block b hb (fun e=>hm bz)⟩
theorem Two.Za {g m i:Nat} (w:World) (u:Value):Two g m w (w.setCell (bY g i) u):=⟨rfl,rfl,rfl,by simp[World.setCell],fun b hb hg _=>aae w (bY g i) u b hg⟩
def V7 (g m:Nat) (l:List ByteArray) (nm:ByteArray) (r:Bool) (w:World) (e:Ending) (w':World):Prop:=e= .returned (.tuple #[])∧iZ w' g m (nm :: l) r∧Two g m w w'
theorem fC (g m:Nat) (l:List ByteArray) (ok good rt:Bool) (nm:ByteArray) (w:World) (hn:nm.size≤maxLen) (h:iZ w g m l ok) (hl:l.length<maxLen):Calls prog 76 #[.pointer (bY g 0),bV nm,.bool good,.bool rt] w (V7 g m l nm (ok&&good&&rt&&dY nm&& !l.contains nm) w):=by
 have HF:=aa (fun W=>kR nm W hn);have F0:=h.1.lt;have hmw:=h.2.1.lt;have hne:=h.2.2;have O7:¬(m=g):=fun e=>hne e.symm;have HS:=aa h.2.1;have HB:=aa h.1;have a0:b_ w g 0 (.map (some m)):=HB.o.cell 0;have a1:b_ w g 1 (.bool ok):=HB.o.cell 1;have a1f:w.frozen? (bY g 1)=false:=HB.o.frozen 1;have hlk:=HS.o.look nm hn;generalize dY nm=q at HF ⊢;generalize l.contains nm=c at hlk ⊢;generalize hr:(ok&&good&&rt&&q&& !c)=r;have HP:∀ w',Hid (gQ w' m (nm :: l))→Hid ((w.setCell (bY g 1) (.bool r)).grownBy w' (some m))→V7 g m l nm r w (.returned (.tuple #[])) w':=fun w' h1 h2=>
  ⟨rfl,⟨(h2.o.block g (by simpa [World.setCell]using F0) (fun e=>hne bz)).trans (HB.o.eB 1 _),h1.o,hne⟩,(Two.Za w _).trans (Two.fE h2.o)⟩
 have Zb:=aa HP;have HSS:=aa (HS.o.cF (p:=bY g 1) O7 (.bool r));generalize hU:V7 g m l nm r w=U at Zb ⊢;clear h HP HB hU;cases ok with
 |false=>
  (obtain rfl:r=false:=by rw[← hr];simp);clear hr;go_enter func76,ntmps76;go_wp2_with (at_mapUpdate;refine iW _ rfl _ _ _ _ rfl underlying128 m l rfl HSS.o hl nm rfl rfl hn ?_;intro w2 hs2 hg2;have ux:=aa hs2;have Rb:=aa hg2;clear hs2 hg2);go_wp2_with fail;exact⟨rfl,.tuple #[],results_none rfl _ _ _,Zb.o _ ux Rb⟩
 |true=>
  cases good with
  |false=>
   (obtain rfl:r=false:=by rw[← hr];simp);clear hr;go_enter func76,ntmps76;go_wp2_with (at_mapUpdate;refine iW _ rfl _ _ _ _ rfl underlying128 m l rfl HSS.o hl nm rfl rfl hn ?_;intro w2 hs2 hg2;have ux:=aa hs2;have Rb:=aa hg2;clear hs2 hg2);go_wp2_with fail;exact⟨rfl,.tuple #[],results_none rfl _ _ _,Zb.o _ ux Rb⟩
  |true=>
   cases rt with
   |false=>
    (obtain rfl:r=false:=by rw[← hr];simp);clear hr;go_enter func76,ntmps76;go_wp2_with (at_mapUpdate;refine iW _ rfl _ _ _ _ rfl underlying128 m l rfl HSS.o hl nm rfl rfl hn ?_;intro w2 hs2 hg2;have ux:=aa hs2;have Rb:=aa hg2;clear hs2 hg2);go_wp2_with fail;exact⟨rfl,.tuple #[],results_none rfl _ _ _,Zb.o _ ux Rb⟩
   |true=>
    cases q with
    |false=>
     (obtain rfl:r=false:=by rw[← hr];simp);clear hr;go_enter func76,ntmps76;go_wp2_with fail;refine(HF.o _).mono ?_;rintro e w1 ⟨rfl,rfl⟩;go_wp2_with (at_mapUpdate;refine iW _ rfl _ _ _ _ rfl underlying128 m l rfl HSS.o hl nm rfl rfl hn ?_;intro w2 hs2 hg2;have ux:=aa hs2;have Rb:=aa hg2;clear hs2 hg2);go_wp2_with fail;exact⟨rfl,.tuple #[],results_none rfl _ _ _,Zb.o _ ux Rb⟩
    |true=>
     (obtain rfl:r= !c:=by rw[← hr];simp);clear hr;go_enter func76,ntmps76;go_wp2_with fail;refine(HF.o _).mono ?_;rintro e w1 ⟨rfl,rfl⟩;go_wp2_with (at_mapUpdate;refine iW _ rfl _ _ _ _ rfl underlying128 m l rfl HSS.o hl nm rfl rfl hn ?_;intro w2 hs2 hg2;have ux:=aa hs2;have Rb:=aa hg2;clear hs2 hg2);go_wp2_with fail;exact⟨rfl,.tuple #[],results_none rfl _ _ _,Zb.o _ ux Rb⟩
end
end Go.Proofs.YtfppbjfnllhgcaaGreat
namespace Go.Proofs
open Go.Shelf Go.RowKit Go.Lib
section
variable {α:Type}
def H_ (enc:α→List Value) (k:Nat) (w:World) (A:Option Addr) (xs:List α):Prop:=
 xs≠[]→∃ b off,A=bY b off∧b<w.heap.size∧∀ j x,xs[j]? =some x→∀ i v,(enc x)[i]? =some v→b_ w b (off+j*k+i) v
section
variable {enc:α→List Value} {k:Nat} {w w':World} {A:Option Addr} {xs:List α}
theorem H_.nil:H_ enc k w A []:=fun h=>absurd rfl h
theorem H_.bZ (h:H_ enc k w A xs) (hb:Below w w w'):H_ enc k w' A xs:=fun hn=>by
 obtain⟨b,off,e,hlt,hc⟩:=h hn;exact⟨b,off,e,aaD hlt hb.size,fun j x hx i v hv=>(hb.cell (p:=bY b (off+j*k+i)) hlt).trans (hc j x hx i v hv)⟩
theorem H_.alloc (h:H_ enc k w A xs) (o:Obj):H_ enc k (w.alloc o) A xs:=h.bZ (cS _)
theorem H_.drew (h:H_ enc k w A xs):H_ enc k w.drew A xs:=h
theorem H_.drewN (h:H_ enc k w A xs) (n:Nat):H_ enc k (w.drewN n) A xs:=h
end
def LB (P:Program) (g:Nat) (lb:Array Value) (enc:α→Value) (p:α→Bool) (xs:List α) (w:World):Prop:=
 ∀ (W:World) (x:α),x∈xs→Below w w W→Calls P g (#[enc x]++lb) W fun e w'=>e= .returned (.bool (p x))∧Below w w w'
open Classical in
noncomputable def clip (xs:List α) (d x:α):α:=if x∈xs then x else d
theorem Iu {xs:List α} {d:α} (hd:d∈xs) (x:α):clip xs d x∈xs:=by
 unfold clip;split
 (·assumption);exact hd
theorem vR {xs:List α} {d x:α} (hx:x∈xs):clip xs d x=x:=by unfold clip;rw[if_pos hx]
theorem RS {xs:List α} {d:α} (p:α→Bool):(xs.any fun x=>p (clip xs d x))=xs.any p:=by
 rw[Bool.eq_iff_iff,List.any_eq_true,List.any_eq_true];constructor
 (·rintro⟨x,hx,h⟩;exact⟨x,hx,by rw[vR hx]at h;exact h⟩);rintro⟨x,hx,h⟩;exact⟨x,hx,by rw[vR hx];exact h⟩
theorem su {xs:List α} {d:α} (p:α→Bool) (y:α):∀ (l:List α) (n:Nat),(∀ x∈l,x∈xs)→Lib.idxByFrom (fun _ x=>p (clip xs d x)) y l n=Lib.idxByFrom (fun _ x=>p x) y l n
 |[],_,_=>rfl
 |a :: l,n,h=>by
  have ih:=su (d:=d) p y l (n+1) (fun x hx=>h x (List.mem_cons_of_mem _ hx));have ha:clip xs d a=a:=vR (h a ai);simp only[Lib.idxByFrom,ih,ha]
theorem LC {xs:List α} {d:α} (p:α→Bool) (y:α) (l:List α) (h:∀ x∈l,x∈xs):Lib.idxBy (fun _ x=>p (clip xs d x)) l y=Lib.idxBy (fun _ x=>p x) l y:=
 su p y l 0 h
variable {P:Program} {ρ:Ren} [Inhabited α]
theorem Iw (L:SlLaysH0.n8 P ρ) (k:Nat) (aE:∀ w,(isAgg (ρ.t 23)).run P w= .ok true w) (zE:∀ w,(Go.sizeOf (ρ.t 23)).run P w= .ok k w) (enc:α→List Value) (hk:∀ x,(enc x).length=k) (p:α→Bool) (g:Nat) (lb:Array Value) (eg:∀ args w,(callFunc g args).run P w= .ok (.enter g args) w) (A:Option Addr) (c:Nat) (xs:List α) (w:World) (hp:LB P g lb (fun x=> .agg (enc x).toArray) p xs w) (hbig:xs.length≤9223372036854775807) (hl:H_ enc k w A xs) (hne:xs≠[]):Calls P (ρ.f 8) #[bW A xs c,.func (.func g) #[] lb] w fun e w'=>e= .returned (.bool (xs.any p))∧Below w w w':=by
 obtain⟨b,off,rfl,hlt,hc⟩:=hl hne;obtain⟨d,l,rfl⟩:∃ d l,xs=d :: l:=by cases xs with
  |nil=>exact absurd rfl hne
  |cons d l=>exact⟨d,l,rfl⟩
 have hd:d∈d :: l:=ai;have h:=AnyQ.slices_ContainsFunc L k aE zE (fun x=>enc (clip (d :: l) d x)) (fun x=>hk _) (fun x=>p (clip (d :: l) d x)) g lb eg b off (d :: l).length c (d :: l) w
  (fun W x hb=>hp W (clip (d :: l) d x) (Iu hd x) hb) aac hbig hlt
  (fun j hj i v hv=>by
   rw[getElem!_pos (d :: l) j hj,vR (aan hj)]at hv;exact hc j _ (List.getElem?_eq_getElem hj) i v hv)
 rw[List.take_length,RS]at h;exact h
theorem RT (L:SlLaysH0.n6 P ρ) (k:Nat) (aE:∀ w,(isAgg (ρ.t 23)).run P w= .ok true w) (zE:∀ w,(Go.sizeOf (ρ.t 23)).run P w= .ok k w) (enc:α→List Value) (hk:∀ x,(enc x).length=k) (p:α→Bool) (g:Nat) (lb:Array Value) (eg:∀ args w,(callFunc g args).run P w= .ok (.enter g args) w) (A:Option Addr) (c:Nat) (xs:List α) (w:World) (hp:LB P g lb (fun x=> .agg (enc x).toArray) p xs w) (hbig:xs.length≤9223372036854775807) (hl:H_ enc k w A xs) (hne:xs≠[]):Calls P (ρ.f 6) #[bW A xs c,.func (.func g) #[] lb] w fun e w'=>e= .returned (bU (Lib.idxBy (fun _ y=>p y) xs default))∧Below w w w':=by
 obtain⟨b,off,rfl,hlt,hc⟩:=hl hne;obtain⟨d,l,rfl⟩:∃ d l,xs=d :: l:=by cases xs with
  |nil=>exact absurd rfl hne
  |cons d l=>exact⟨d,l,rfl⟩
 have hd:d∈d :: l:=ai;have h:=AnyQ.slices_IndexFunc L k aE zE (fun x=>enc (clip (d :: l) d x)) (fun x=>hk _) (fun x=>p (clip (d :: l) d x)) g lb eg b off (d :: l).length c (d :: l) w
  (fun W x hb=>hp W (clip (d :: l) d x) (Iu hd x) hb) aac hbig hlt
  (fun j hj i v hv=>by
   rw[getElem!_pos (d :: l) j hj,vR (aan hj)]at hv;exact hc j _ (List.getElem?_eq_getElem hj) i v hv)
 rw[List.take_length,LC p default (d :: l) (fun x hx=>hx)]at h;exact h
end
end Go.Proofs
namespace Go.Proofs.YtfppbjfnllhgcaaGreat
section
open Go Go.RowKit
section
theorem F2 (a:Addr) (n:Nat):(a.add n).block=a.block:=by unfold Addr.add;split<;>rfl
def Reads (w:World) (B size:Nat) (A:Option Addr) (n:Nat) (xs:List Value):Prop:=
 xs.length=n*size∧(0<n→∃ ad,A=some ad∧ad.block<B∧∀ j u,xs[j]? =some u→w.cell? (ad.add j)=some u)
section
variable {w w':World} {B B' size n:Nat} {A:Option Addr} {xs:List Value}
theorem Reads.none_:Reads w B size A 0 []:=⟨by simp,fun h=>absurd h af⟩
theorem Reads.at_ {k:Nat} (h:Reads w B 1 A n xs) (hk:k<n):∃ ad u,A=some ad∧ad.block<B∧xs[k]? =some u∧w.cell? (ad.add k)=some u:=by
 obtain⟨ad,e,hb,hc⟩:=h.2 af;(have hl:k<xs.length:=by have:=h.1;omega);exact⟨ad,xs[k],e,hb,List.getElem?_eq_getElem hl,hc k _ (List.getElem?_eq_getElem hl)⟩
theorem Reads.keep (h:Reads w B size A n xs) (hk:∀ p:Addr,p.block<B→w'.cell? p=w.cell? p):Reads w' B size A n xs:=
 ⟨h.1,fun hn=>by
  obtain⟨ad,e,hb,hc⟩:=h.2 hn;exact⟨ad,e,hb,fun j u hu=>(hk _ (by rw[F2];exact hb)).trans (hc j u hu)⟩⟩
theorem Reads.more (h:Reads w B size A n xs) (hB:B≤B'):Reads w B' size A n xs:=
 ⟨h.1,fun hn=>by
  obtain⟨ad,e,hb,hc⟩:=h.2 hn;exact⟨ad,e,by omega,hc⟩⟩
theorem Reads.bZ (h:Reads w B size A n xs) (hb:Below B w w'):Reads w' B size A n xs:=h.keep fun _ hp=>hb.cell hp
theorem Reads.drew (h:Reads w B size A n xs):Reads w.drew B size A n xs:=h
theorem Reads.drewN (h:Reads w B size A n xs) (k:Nat):Reads (w.drewN k) B size A n xs:=h
theorem Reads.alloc (h:Reads w B size A n xs) (hB:B≤w.heap.size) (o:Obj):Reads (w.alloc o) B size A n xs:=h.keep fun p hp=>World.cell?_alloc_lt w o p af
theorem Reads.setCell (h:Reads w B size A n xs) {p:Addr} (hB:B≤p.block) (u:Value):Reads (w.setCell p u) B size A n xs:=
 h.keep fun q hq=>World.cell?_setCell_other w p q u (fun e=>by subst e;omega)
theorem Reads.grown (h:Reads w B size A n xs) {row:Option Nat} (hg:w.grownBy w' row) (hB:B≤w.heap.size) (hr:∀ g,row=some g→B≤g):Reads w' B size A n xs:=
 h.keep fun p hp=>World.cell?_of_block (hg.block p.block af (fun e=>by have:=hr _ e.symm;omega))
end
section
variable {P:Program} (w:World)
theorem vS (base:Nat) (t ty e:TypeId) (i:TypeInfo) (size:Nat) (ht:P.underlying t=some (.slice e)) (hi:P.info? e=some i) (v:Value) (n:Nat) (xs:List Value) (hown:w.ownsRow base e size v n xs) (c:Nat):(Builtin.append_ #[t,t] ty #[v,bW none 0 c]).run P w= .ok v w:=by
 rcases hown.2 with⟨rfl,rfl⟩|⟨g,cap,cur,rfl,_,_,hnc,_⟩
 (·simp[Builtin.append_,run_underlying ht,sizeOf,typeInfo,hi,Builtin.lenOf,Builtin.firstCells]);simp[Builtin.append_,run_underlying ht,sizeOf,typeInfo,hi,Builtin.lenOf,Builtin.firstCells,hnc,storeCells]
theorem BV (base:Nat) (t ty e:TypeId) (i:TypeInfo) (z:Value) (size bytes:Nat) (ht:P.underlying t=some (.slice e)) (hi:P.info? e=some i) (hz:i.zero=some z) (hsize:i.size=size) (hby:i.bytes=bytes) (hzs:z.cells.size=size) (hsz:0<size) (v:Value) (n:Nat) (xs:List Value) (hown:w.ownsRow base e size v n xs) (B:Nat) (A:Option Addr) (m c:Nat) (news:List Value) (hr:Reads w B size A m news) (h1:∀ u∈news,u.oneCell'=true) (h63:n+m≤maxLen) (hbytes:(n+m)*bytes≤140737488355328) (hbase:base≤w.heap.size):∃ v' w',(Builtin.append_ #[t,t] ty #[v,bW A m c]).run P w= .ok v' w'∧w'.ownsRow base e size v' (n+m) (xs++news)∧w.grownBy w' v.ownBlock∧(v'.ownBlock=v.ownBlock∨v'.ownBlock=some w.heap.size):=by
 rcases A with _|ad
 ·have hm:m=0:=by
   rcases Nat.eq_zero_or_pos m with h0|h0
   (·exact h0);obtain⟨ad,h,_⟩:=hr.2 h0;cases h
  subst hm;have hn:news=[]:=aaj (by simpa using hr.1);subst hn;exact⟨v,w,vS w base t ty e i size ht hi v n xs hown c,by simpa using hown,World.grownBy.refl w _,.inl rfl⟩
 have hcells:∀ j u,news[j]? =some u→w.cell? (ad.add j)=some u:=by
  intro j u hu;rcases Nat.eq_zero_or_pos m with h0|h0
  (·subst h0;have hn:news=[]:=aaj (by simpa using hr.1);subst hn;simp at hu);obtain⟨ad',h,_,hc⟩:=hr.2 h0;injection h with h;subst h;exact hc j u hu
 obtain⟨v',w',hrun,h2,h3,_,h5⟩:=run_append_own_at (P:=P) w base t ty e i z size bytes ht hi hz hsize hby hzs hsz v n xs hown ad m c news hr.1 hcells h1 h63 hbytes hbase;exact⟨v',w',hrun,h2,h3,h5⟩
theorem pV {o:Oper} {a:Act} {K:Act→World→Prop} {Q:Exit→Act→World→Prop} (s x:Operand) (t:TypeId) (ho:o.op= .call {callee:= .builtin .append,args:=#[s,x],argTypes:=#[t,t]}) (base:Nat) (e:TypeId) (i:TypeInfo) (z:Value) (size bytes:Nat) (ht:P.underlying t=some (.slice e)) (hi:P.info? e=some i) (hz:i.zero=some z) (hsize:i.size=size) (hby:i.bytes=bytes) (hzs:z.cells.size=size) (hsz:0<size) (v:Value) (n:Nat) (xs:List Value) (hs:a.eval s=v) (hown:w.ownsRow base e size v n xs) (B:Nat) (A:Option Addr) (m c:Nat) (news:List Value) (hx:a.eval x=bW A m c) (hr:Reads w B size A m news) (h1:∀ u∈news,u.oneCell'=true) (h63:n+m≤maxLen) (hbytes:(n+m)*bytes≤140737488355328) (hbase:base≤w.heap.size) (h:∀ v' w',w'.ownsRow base e size v' (n+m) (xs++news)→w.grownBy w' v.ownBlock→(v'.ownBlock=v.ownBlock∨v'.ownBlock=some w.heap.size)→K (a.put o.dst v') w'):o.wp P a w K Q:=by
 obtain⟨v',w',hrun,h2,h3,h4⟩:=BV (P:=P) w base t o.type e i z size bytes ht hi hz hsize hby hzs hsz v n xs hown B A m c news hr h1 h63 hbytes hbase;unfold Oper.wp execOp;simp only[ho,resolve,invoke,builtin,Sem.run_bind,Sem.run_pure,Result.andThen_ok,List.map_toArray,List.map_cons,List.map_nil,hs,hx,hrun];exact h v' w' h2 h3 h4
theorem f_ {ops:Array Oper} {rest:List Oper} {o:Oper} {a:Act} {Q:Exit→Act→World→Prop} (hgd:o.guard=none) (s x:Operand) (t:TypeId)
 (ho:o.op= .call {callee:= .builtin .append,args:=#[s,x],argTypes:=#[t,t]})
 (base:Nat) (e:TypeId) (i:TypeInfo) (z:Value) (size bytes:Nat) (ht:P.underlying t=some (.slice e)) (hi:P.info? e=some i) (hz:i.zero=some z)
 (hsize:i.size=size) (hby:i.bytes=bytes) (hzs:z.cells.size=size) (hsz:0<size)
 (v:Value) (n:Nat) (xs:List Value) (hs:a.eval s=v) (hown:w.ownsRow base e size v n xs)
 (B:Nat) (A:Option Addr) (m c:Nat) (news:List Value) (hx:a.eval x=bW A m c) (hr:Reads w B size A m news) (h1:∀ u∈news,u.oneCell'=true)
 (h63:n+m≤maxLen) (hbytes:(n+m)*bytes≤140737488355328) (hbase:base≤w.heap.size)
 (h:∀ v' w',w'.ownsRow base e size v' (n+m) (xs++news)→w.grownBy w' v.ownBlock→(v'.ownBlock=v.ownBlock∨v'.ownBlock=some w.heap.size)→wpList P ops Q rest (a.put o.dst v') w'):wpList P ops Q (o :: rest) a w:=
 wpList_plain hgd fun _ hK=>pV w s x t ho base e i z size bytes ht hi hz hsize hby hzs hsz v n xs hs hown B A m c news hx hr h1 h63 hbytes hbase fun v' w' h2 h3 h4=>hK _ _ (h v' w' h2 h3 h4)
end
end
end
section
open Go Go.RowKit Go.Proofs
section
def cB (S:Nat→Prop) (w w':World):Prop:=w.heap.size≤w'∧∀ b,b<w.heap.size→S b→w'.heap[b]? =w.heap[b]?
theorem cB.refl (S:Nat→Prop) (w:World):cB S w w:=⟨aaB _,fun _ _ _=>rfl⟩
theorem cB.trans {S:Nat→Prop} {a b c:World} (h:cB S a b) (k:cB S b c):cB S a c:=
 ⟨aaC h.1 k.1,fun i hi hs=>(k.2 i (aaD hi h.1) hs).trans (h.2 i hi hs)⟩
theorem cB.cA {S:Nat→Prop} {w w':World} (h:Below w w w'):cB S w w':=⟨h.size,fun b hb _=>h.block b hb⟩
theorem cB.tP {S:Nat→Prop} {B:Nat} {w w':World} (h:Below B w w') (hs:∀ b,S b→b<B):cB S w w':=⟨h.size,fun b _ hb=>h.block b (hs b hb)⟩
theorem cB.fE {S:Nat→Prop} {w w':World} {row:Option Nat} (h:w.grownBy w' row) (hs:∀ b,S b→some b≠row):cB S w w':=⟨h.size,fun b hb k=>h.block b hb (hs b k)⟩
structure Dat (α:Type) where
 cells:α→List Value
 k:Nat
 len:∀ x,(cells x).length=k
 one:∀ x,∀ v∈cells x,v.oneCell'=true
 ok:World→(Nat→Prop)→α→Prop
 keep:∀ {w w':World} {S:Nat→Prop} {x:α},ok w S x→cB S w w'→ok w' S x
 mono:∀ {w:World} {S S':Nat→Prop} {x:α},ok w S x→(∀ b,b<w.heap.size→S b→S' b)→ok w S' x
section
variable {α:Type} {D:Dat α} {w w':World} {S S':Nat→Prop} {A:Option Addr} {xs:List α}
def Sl (D:Dat α) (w:World) (S:Nat→Prop) (A:Option Addr) (xs:List α):Prop:=
 (xs≠[]→∃ b off,A=bY b off∧S b∧b<w.heap.size∧∀ j x,xs[j]? =some x→∀ i v,(D.cells x)[i]? =some v→b_ w b (off+j*D.k+i) v)∧∀ x∈xs,D.ok w S x
theorem Sl.nil:Sl D w S A []:=⟨fun h=>absurd rfl h,fun x hx=>by simp at hx⟩
theorem Sl.keep (h:Sl D w S A xs) (hk:cB S w w'):Sl D w' S A xs:=
 ⟨fun hn=>by
  obtain⟨b,off,e,hs,hlt,hc⟩:=h.1 hn;exact⟨b,off,e,hs,aaD hlt hk.1,fun j x hx i v hv=>(World.cell?_of_block (a:=bY b (off+j*D.k+i)) (hk.2 b hlt hs)).trans (hc j x hx i v hv)⟩,fun x hx=>D.keep (h.2 x hx) hk⟩
theorem Sl.bZ (h:Sl D w S A xs) (hb:Below w w w'):Sl D w' S A xs:=h.keep (cB.cA hb)
theorem Sl.mono (h:Sl D w S A xs) (hs:∀ b,b<w.heap.size→S b→S' b):Sl D w S' A xs:=
 ⟨fun hn=>by
  obtain⟨b,off,e,h1,hlt,hc⟩:=h.1 hn;exact⟨b,off,e,hs b hlt h1,hlt,hc⟩,fun x hx=>D.mono (h.2 x hx) hs⟩
theorem Sl.all (h:Sl D w S A xs):Sl D w (fun _=>True) A xs:=h.mono fun _ _ _=>trivial
theorem Sl.qb (h:Sl D w S A xs):H_ D.cells D.k w A xs:=fun hn=>by
 obtain⟨b,off,e,_,hlt,hc⟩:=h.1 hn;exact⟨b,off,e,hlt,hc⟩
theorem Sl.get (h:Sl D w S A xs) {j:Nat} (hj:j<xs.length):∃ b off,A=bY b off∧S b∧b<w.heap.size∧D.ok w S xs[j]∧∀ i v,(D.cells xs[j])[i]? =some v→b_ w b (off+j*D.k+i) v:=by
 obtain⟨b,off,e,hs,hlt,hc⟩:=h.1 (fun e=>by subst e;simp at hj);exact⟨b,off,e,hs,hlt,h.2 _ (aan hj),fun i v hv=>hc j _ (List.getElem?_eq_getElem hj) i v hv⟩
theorem Sl.take (h:Sl D w S A xs) (n:Nat):Sl D w S A (xs.take n):=by
 refine⟨fun hn=>?_,fun x hx=>h.2 x (List.mem_of_mem_take hx)⟩;obtain⟨b,off,e,hs,hlt,hc⟩:=h.1 (fun e=>by subst e;simp at hn);refine⟨b,off,e,hs,hlt,fun j x hx i v hv=>hc j x ?_ i v hv⟩;rw[List.getElem?_take]at hx;split at hx
 (·exact hx);cases hx
theorem Sl.drop {b off:Nat} (h:Sl D w S (bY b off) xs) (n:Nat):Sl D w S (bY b (off+n*D.k)) (xs.drop n):=
 ⟨fun hn=>by
  obtain⟨b',off',e,hs,hlt,hc⟩:=h.1 (fun e=>by subst e;simp at hn);injection e with e;injection e with e1 e2;subst e1 e2;refine⟨b,_,rfl,hs,hlt,fun j x hx i v hv=>?_⟩;have:=hc (n+j) x (by rw[← hx,List.getElem?_drop]) i v hv;rw[show off+n*D.k+j*D.k+i=off+(n+j)*D.k+i by rw[aaA];omega];exact this,fun x hx=>h.2 x (List.mem_of_mem_drop hx)⟩
end
section
variable {α:Type} {D:Dat α} {w w' W:World} {S S':Nat→Prop} {v v':Value} {xs ys:List α} {B T:Nat}
theorem oB {e size n:Nat} {us:List Value} (h:w.ownsRow B e size v n us) (hb:Below w w w'):w'.ownsRow B e size v n us:=by
 refine⟨h.1,?_⟩;rcases h.2 with h1|⟨g,cap,cur,rfl,hB,hg,rest⟩
 (·exact .inl h1);refine .inr ⟨g,cap,cur,rfl,hB,?_,rest⟩;rw[hb.block g (Array.getElem?_eq_some_iff.1 hg).1];exact hg
theorem tQ {e size n:Nat} {us:List Value} (h:w.ownsRow B e size v n us) (g:Nat) (hg:v.ownBlock=some g):B≤g∧g<w.heap.size:=by
 rcases h.2 with⟨rfl,_⟩|⟨g',cap,cur,rfl,hb,hh,_⟩
 (·simp[Value.ownBlock]at hg);(have:g'=g:=by simpa [Value.ownBlock]using hg);subst this;exact⟨hb,(Array.getElem?_eq_some_iff.1 hh).1⟩
theorem iK {e size n:Nat} {us:List Value} (h:w.ownsRow B e size v n us):∃ A c,v=bW A n c∧n≤c∧c≤maxLen:=by
 rcases h.2 with⟨h,hn⟩|⟨g,cap,cur,h,_,_,h1,h2,_⟩
 (·exact⟨none,0,by rw[h,hn],by omega,aaG _⟩);exact⟨_,_,h,h1,h2⟩
def vT (D:Dat α) (T B:Nat) (w:World) (S:Nat→Prop) (v:Value) (xs:List α):Prop:=
 w.ownsRow B T D.k v xs.length (xs.flatMap D.cells)∧∀ x∈xs,D.ok w (fun b=>S b∧some b≠v.ownBlock) x
theorem vT.ql:vT D T B w S cD []:=⟨⟨by simp,.inl ⟨rfl,rfl⟩⟩,fun x hx=>by simp at hx⟩
theorem vT.empty (hB:B≤w.heap.size) (t:Nat) (ht:t=T):vT D T B (w.alloc (.cells #[] t)) S (bW (bY w 0) 0 0) []:=by
 subst ht;exact⟨⟨by simp,.inr ⟨w.heap.size,0,#[],rfl,hB,heap_alloc_new w _,aaB _,aaG _,by simp,by simp⟩⟩,fun x hx=>by simp at hx⟩
theorem vT.bZ (h:vT D T B w S v xs) (hb:Below w w w'):vT D T B w' S v xs:=⟨oB h.1 hb,fun x hx=>D.keep (h.2 x hx) (cB.cA hb)⟩
theorem vT.mono (h:vT D T B w S v xs) (hs:∀ b,b<w.heap.size→S b→S' b):vT D T B w S' v xs:=⟨h.1,fun x hx=>D.mono (h.2 x hx) fun b hb q=>⟨hs b hb q.1,q.2⟩⟩
theorem vT.slice (h:vT D T B w S v xs):∃ A c,v=bW A xs c∧xs.length≤c∧c≤maxLen:=iK h.1
theorem vT.more {news:List α} {nv:List Value} {n:Nat} (h2:∀ x∈xs,D.ok W (fun b=>S b∧some b≠v.ownBlock) x) (hn:∀ x∈news,D.ok W (fun b=>S b∧some b≠v.ownBlock) x) (hnv:nv=news.flatMap D.cells) (hnn:n=news.length) (ho:w'.ownsRow B T D.k v' (xs.length+n) (xs.flatMap D.cells++nv)) (hg:W.grownBy w' v.ownBlock) (hat:v'.ownBlock=v.ownBlock∨v'.ownBlock=some W.heap.size):vT D T B w' S v' (xs++news):=by
 subst hnv hnn;refine⟨by simpa using ho,fun x hx=>?_⟩;have hx':D.ok W (fun b=>S b∧some b≠v.ownBlock) x:=by
  rcases aar.1 hx with h|h
  (·exact h2 x h);exact hn x h
 have h1:D.ok W (fun b=>(S b∧some b≠v.ownBlock)∧some b≠v'.ownBlock) x:=D.mono hx' fun b hb q=>⟨q,by
  rcases hat with e|e
  (·rw[e];exact q.2);rw[e];intro e2;injection e2 with e2;omega⟩
 exact D.mono (D.keep h1 (cB.fE hg fun b q=>q.1.2)) fun b _ q=>⟨q.1.1,q.2⟩
end
end
section
abbrev Any (_:Nat):Prop:=True
def Rows (w:World) (S:Nat→Prop) (A:Option Addr) (k:Nat) (css:List (List Value)):Prop:=
 css≠[]→∃ b off,A=bY b off∧S b∧b<w.heap.size∧∀ j cs,css[j]? =some cs→∀ i v,cs[i]? =some v→b_ w b (off+j*k+i) v
section
variable {w w':World} {S S':Nat→Prop} {A:Option Addr} {k:Nat} {css:List (List Value)}
theorem Rows.keep (h:Rows w S A k css) (hk:cB S w w'):Rows w' S A k css:=fun hn=>by
 obtain⟨b,off,e,hs,hlt,hc⟩:=h hn;exact⟨b,off,e,hs,aaD hlt hk.1,fun j x hx i v hv=>(World.cell?_of_block (a:=bY b (off+j*k+i)) (hk.2 b hlt hs)).trans (hc j x hx i v hv)⟩
theorem Rows.mono (h:Rows w S A k css) (hs:∀ b,b<w.heap.size→S b→S' b):Rows w S' A k css:=fun hn=>by
 obtain⟨b,off,e,h1,hlt,hc⟩:=h hn;exact⟨b,off,e,hs b hlt h1,hlt,hc⟩
end
structure Rel (α:Type) where
 k:Nat
 is:World→(Nat→Prop)→List Value→α→Prop
 len:∀ {w S cs x},is w S cs x→cs.length=k
 one:∀ {w S cs x},is w S cs x→∀ v∈cs,v.oneCell'=true
 keep:∀ {w w':World} {S:Nat→Prop} {cs x},is w S cs x→cB S w w'→is w' S cs x
 mono:∀ {w:World} {S S':Nat→Prop} {cs x},is w S cs x→(∀ b,b<w.heap.size→S b→S' b)→is w S' cs x
def Sq {α:Type} (R:Rel α) (w:World) (S:Nat→Prop) (A:Option Addr) (xs:List α):Prop:=
 ∃ css:List (List Value),css.length=xs.length∧Rows w S A R.k css∧∀ (j:Nat) cs x,css[j]? =some cs→xs[j]? =some x→R.is w S cs x
section
variable {α:Type} {R:Rel α} {w w':World} {S S':Nat→Prop} {A:Option Addr} {xs:List α}
theorem Sq.nil:Sq R w S A []:=⟨[],rfl,fun h=>absurd rfl h,fun j cs x h=>by simp at h⟩
theorem Sq.keep (h:Sq R w S A xs) (hk:cB S w w'):Sq R w' S A xs:=by
 obtain⟨css,h1,h2,h3⟩:=h;exact⟨css,h1,h2.keep hk,fun j cs x hc hx=>R.keep (h3 j cs x hc hx) hk⟩
theorem Sq.bZ (h:Sq R w S A xs) (hb:Below w w w'):Sq R w' S A xs:=h.keep (cB.cA hb)
theorem Sq.alloc (h:Sq R w S A xs) (o:Obj):Sq R (w.alloc o) S A xs:=h.bZ (cS _)
theorem Sq.drew (h:Sq R w S A xs):Sq R w.drew S A xs:=h.keep ⟨aaB _,fun _ _ _=>rfl⟩
theorem Sq.mono (h:Sq R w S A xs) (hs:∀ b,b<w.heap.size→S b→S' b):Sq R w S' A xs:=by
 obtain⟨css,h1,h2,h3⟩:=h;exact⟨css,h1,h2.mono hs,fun j cs x hc hx=>R.mono (h3 j cs x hc hx) hs⟩
theorem Sq.all (h:Sq R w S A xs):Sq R w Any A xs:=h.mono fun _ _ _=>trivial
theorem Sq.get (h:Sq R w S A xs) {j:Nat} (hj:j<xs.length):∃ b off cs,A=bY b off∧S b∧b<w.heap.size∧R.is w S cs xs[j]∧∀ i v,cs[i]? =some v→b_ w b (off+j*R.k+i) v:=by
 obtain⟨css,h1,h2,h3⟩:=h;have hj':j<css.length:=af;obtain⟨b,off,e,hs,hlt,hc⟩:=h2 (fun e=>by rw[e]at hj';simp at hj');exact⟨b,off,css[j],e,hs,hlt,h3 j _ _ (List.getElem?_eq_getElem hj') (List.getElem?_eq_getElem hj),fun i v hv=>hc j _ (List.getElem?_eq_getElem hj') i v hv⟩
theorem Sq.addr (h:Sq R w S A xs) (hn:xs≠[]):∃ b off,A=bY b off∧S b∧b<w.heap.size:=by
 obtain⟨css,h1,h2,h3⟩:=h;obtain⟨b,off,e,hs,hlt,_⟩:=h2 (fun e=>hn (aaj (by rw[← h1,e];rfl)));exact⟨b,off,e,hs,hlt⟩
theorem Sq.qb (h:Sq R w S A xs):∃ f:Nat→List Value,(∀ i,(f i).length=R.k)∧H_ f R.k w A (List.range xs.length)∧(∀ i v,v∈f i→v.oneCell'=true)∧∀ i (hi:i<xs.length),R.is w S (f i) xs[i]:=by
 obtain⟨css,h1,h2,h3⟩:=h;refine⟨fun i=>(css[i]?).getD (aaw R.k (bU 0)),fun i=>?_,fun hn=>?_,fun i v hv=>?_,fun i hi=>?_⟩
 ·dsimp only;by_cases hi:i<css.length
  (·rw[List.getElem?_eq_getElem hi];exact R.len (h3 i _ xs[i] (List.getElem?_eq_getElem hi) (List.getElem?_eq_getElem af)));rw[List.getElem?_eq_none af];simp
 ·have hn':css≠[]:=fun e=>by
   apply hn;rw[← h1,e];rfl
  obtain⟨b,off,e,hs,hlt,hc⟩:=h2 hn';refine⟨b,off,e,hlt,fun j x hx i v hv=>?_⟩;obtain⟨hj,hjx⟩:=List.getElem?_eq_some_iff.1 hx;rw[List.length_range]at hj;rw[List.getElem_range]at hjx;subst hjx;have hj':j<css.length:=af;dsimp only at hv;rw[List.getElem?_eq_getElem hj']at hv;exact hc j _ (List.getElem?_eq_getElem hj') i v hv
 ·dsimp only at hv;by_cases hi:i<css.length
  (·rw[List.getElem?_eq_getElem hi]at hv;exact R.one (h3 i _ xs[i] (List.getElem?_eq_getElem hi) (List.getElem?_eq_getElem af)) v hv);rw[List.getElem?_eq_none af]at hv;have:=List.eq_of_mem_replicate hv;rw[this];rfl
 dsimp only;have hi':i<css.length:=af;rw[List.getElem?_eq_getElem hi'];exact h3 i _ _ (List.getElem?_eq_getElem hi') (List.getElem?_eq_getElem hi)
end
def dO {α:Type} (R:Rel α) (T B:Nat) (w:World) (S:Nat→Prop) (v:Value) (xs:List α):Prop:=
 ∃ css:List (List Value),css.length=xs.length∧w.ownsRow B T R.k v xs.length css.flatten∧(∀ cs∈css,cs.length=R.k)∧∀ (j:Nat) cs x,css[j]? =some cs→xs[j]? =some x→R.is w (fun b=>S b∧some b≠v.ownBlock) cs x
end
end
section
open Go Go.RowKit Go.Proofs Sh
section
def mg {α:Type} (k:Nat) (f:α→List Value) (hk:∀ x,(f x).length=k) (h1:∀ x,∀ v∈f x,v.oneCell'=true):Rel α where
 k:=k
 is:=fun _ _ cs x=>cs=f x
 len:=fun h=>by rw[h];exact hk _
 one:=fun h=>by rw[h];exact h1 _
 keep:=fun h _=>h
 mono:=fun h _=>h
def iL:Rel ByteArray:=mg 1 (fun s=>[bV s]) (fun _=>rfl) (fun x v hv=>by simp at hv;subst hv;rfl)
def qT:Rel fR:=mg 6 (fun x=>[bV x.name,bV x.unit,bU x.amount,bU x.house,bV x.port,bU x.version]) (fun _=>rfl) (fun x v hv=>by simp at hv;rcases hv with rfl|rfl|rfl|rfl|rfl|rfl<;>rfl)
def qU:Rel iT:=mg 3 (fun x=>[bV x.name,bV x.unit,bV x.kind]) (fun _=>rfl) (fun x v hv=>by simp at hv;rcases hv with rfl|rfl|rfl<;>rfl)
def LD:Rel D1:=mg 2 (fun x=>[bU x.key,bU x.value]) (fun _=>rfl) (fun x v hv=>by simp at hv;rcases hv with rfl|rfl<;>rfl)
def jm:Rel eX:=mg 2 (fun x=>[bV x.name,bV x.unit]) (fun _=>rfl) (fun x v hv=>by simp at hv;rcases hv with rfl|rfl<;>rfl)
def BW:Rel mY:=mg 3 (fun x=>[bV x.name,bV x.unit,bU x.amount]) (fun _=>rfl) (fun x v hv=>by simp at hv;rcases hv with rfl|rfl|rfl<;>rfl)
def uM:Rel kP:=mg 3 (fun x=>[bV x.name,bV x.unit,bU x.rule]) (fun _=>rfl) (fun x v hv=>by simp at hv;rcases hv with rfl|rfl|rfl<;>rfl)
inductive cH (w:World) (S:Nat→Prop):List Value→cw→Prop
 |mk (op n:Int) (unit name:ByteArray) (A:Option Addr) (c:Nat) (css:List (List Value)) (args:List cw):
  css.length=args.length→Rows w S A 5 css→(∀ (j:Nat) cs x,css[j]? =some cs→args[j]? =some x→cH w S cs x)→
  cH w S [bU op,bU n,bV unit,bV name,bW A args c] (.mk op n unit name args)
theorem cH.keep {w w':World} {S:Nat→Prop} {cs:List Value} {x:cw} (h:cH w S cs x) (hk:cB S w w'):cH w' S cs x:=by
 induction h with
 |mk op n unit name A c css args h1 h2 h3 ih=>exact .mk op n unit name A c css args h1 (h2.keep hk) ih
theorem cH.mono {w:World} {S S':Nat→Prop} {cs:List Value} {x:cw} (h:cH w S cs x) (hs:∀ b,b<w.heap.size→S b→S' b):cH w S' cs x:=by
 induction h with
 |mk op n unit name A c css args h1 h2 h3 ih=>exact .mk op n unit name A c css args h1 (h2.mono hs) ih
def di:Rel cw where
 k:=5
 is:=cH
 len:=fun h=>by cases h;rfl
 one:=fun h v hv=>by
  cases h;simp at hv;rcases hv with rfl|rfl|rfl|rfl|rfl<;>rfl
 keep:=cH.keep
 mono:=cH.mono
theorem cH.parts {w:World} {S:Nat→Prop} {cs:List Value} {x:cw} (h:cH w S cs x):∃ op n unit name A c args,x= .mk op n unit name args∧cs=[bU op,bU n,bV unit,bV name,bW A args c]∧Sq di w S A args:=by
 cases h with
 |mk op n unit name A c css args h1 h2 h3=>exact⟨op,n,unit,name,A,c,args,rfl,rfl,css,h1,h2,h3⟩
theorem cH.of {w:World} {S:Nat→Prop} {op n:Int} {unit name:ByteArray} {A:Option Addr} {c:Nat} {args:List cw} (h:Sq di w S A args):cH w S [bU op,bU n,bV unit,bV name,bW A args c] (.mk op n unit name args):=by
 obtain⟨css,h1,h2,h3⟩:=h;exact .mk op n unit name A c css args h1 h2 h3
def mG:Rel dZ where
 k:=3
 is:=fun w S cs x=>∃ A c,cs=[bV x.name,bV x.unit,bW A x.rows c]∧Sq LD w S A x.rows
 len:=fun⟨A,c,h,_⟩=>by rw[h];rfl
 one:=fun⟨A,c,h,_⟩ v hv=>by
  rw[h]at hv;simp at hv;rcases hv with rfl|rfl|rfl<;>rfl
 keep:=fun⟨A,c,h,k⟩ hk=>⟨A,c,h,k.keep hk⟩
 mono:=fun⟨A,c,h,k⟩ hs=>⟨A,c,h,k.mono hs⟩
def gR:Rel cL where
 k:=7
 is:=fun w S cs x=>∃ A c es,cs=[bV x.name,bW A x.params c]++es∧Sq jm w S A x.params∧cH w S es x.body
 len:=fun⟨A,c,es,h,_,k⟩=>by rw[h,aao,di.len k];rfl
 one:=fun⟨A,c,es,h,_,k⟩ v hv=>by
  rw[h,aar]at hv;rcases hv with hv|hv
  (·simp at hv;rcases hv with rfl|rfl<;>rfl);exact di.one k v hv
 keep:=fun⟨A,c,es,h,k1,k2⟩ hk=>⟨A,c,es,h,k1.keep hk,k2.keep hk⟩
 mono:=fun⟨A,c,es,h,k1,k2⟩ hs=>⟨A,c,es,h,k1.mono hs,k2.mono hs⟩
def m_:Rel fD where
 k:=7
 is:=fun w S cs x=>∃ es,cs=[bV x.name,bV x.unit]++es∧cH w S es x.kY
 len:=fun⟨es,h,k⟩=>by rw[h,aao,di.len k];rfl
 one:=fun⟨es,h,k⟩ v hv=>by
  rw[h,aar]at hv;rcases hv with hv|hv
  (·simp at hv;rcases hv with rfl|rfl<;>rfl);exact di.one k v hv
 keep:=fun⟨es,h,k2⟩ hk=>⟨es,h,k2.keep hk⟩
 mono:=fun⟨es,h,k2⟩ hs=>⟨es,h,k2.mono hs⟩
def sA:Rel pF where
 k:=6
 is:=fun w S cs x=>∃ A1 c1 A2 c2 A3 c3,cs=[bU x.kind,bW A1 x.inp c1,bW A2 x.o c2,bV x.name,bW A3 x.cells c3,bU x.amount]∧Sq iL w S A1 x.inp∧Sq iL w S A2 x.o∧Sq iL w S A3 x.cells
 len:=fun⟨A1,c1,A2,c2,A3,c3,h,_⟩=>by rw[h];rfl
 one:=fun⟨A1,c1,A2,c2,A3,c3,h,_⟩ v hv=>by
  rw[h]at hv;simp at hv;rcases hv with rfl|rfl|rfl|rfl|rfl|rfl<;>rfl
 keep:=fun⟨A1,c1,A2,c2,A3,c3,h,k1,k2,k3⟩ hk=>⟨A1,c1,A2,c2,A3,c3,h,k1.keep hk,k2.keep hk,k3.keep hk⟩
 mono:=fun⟨A1,c1,A2,c2,A3,c3,h,k1,k2,k3⟩ hs=>⟨A1,c1,A2,c2,A3,c3,h,k1.mono hs,k2.mono hs,k3.mono hs⟩
def nV:Rel fW where
 k:=2
 is:=fun w S cs x=>∃ A c,cs=[bV x.kind,bW A x.steps c]∧Sq sA w S A x.steps
 len:=fun⟨A,c,h,_⟩=>by rw[h];rfl
 one:=fun⟨A,c,h,_⟩ v hv=>by
  rw[h]at hv;simp at hv;rcases hv with rfl|rfl<;>rfl
 keep:=fun⟨A,c,h,k⟩ hk=>⟨A,c,h,k.keep hk⟩
 mono:=fun⟨A,c,h,k⟩ hs=>⟨A,c,h,k.mono hs⟩
structure j6 where
 A1:Option Addr
 c1:Nat
 A2:Option Addr
 c2:Nat
 A3:Option Addr
 c3:Nat
 A4:Option Addr
 c4:Nat
 A5:Option Addr
 c5:Nat
 A6:Option Addr
 c6:Nat
 A7:Option Addr
 c7:Nat
 A8:Option Addr
 c8:Nat
def dU (a:j6) (s:cK):List Value:=
 (g_ s a.A1 a.A2 a.A3 a.A4 a.A5 a.A6 a.A7 a.A8 a.c1 a.c2 a.c3 a.c4 a.c5 a.c6 a.c7 a.c8)
structure eo (w:World) (S:Nat→Prop) (a:j6) (s:cK):Prop where
 imports:Sq qT w S a.A1 s.imports
 inputs:Sq qU w S a.A2 s.inputs
 tables:Sq mG w S a.A3 s.tables
 funcs:Sq gR w S a.A4 s.funcs
 cells:Sq m_ w S a.A5 s.cells
 ei:Sq BW w S a.A6 s.ei
 stores:Sq uM w S a.A7 s.stores
 cI:Sq nV w S a.A8 s.cI
section
variable {w w':World} {S S':Nat→Prop} {a:j6} {s:cK}
theorem eo.keep (h:eo w S a s) (hk:cB S w w'):eo w' S a s:=⟨h.imports.keep hk,h.inputs.keep hk,h.tables.keep hk,h.funcs.keep hk,h.cells.keep hk,h.ei.keep hk,h.stores.keep hk,h.cI.keep hk⟩
theorem eo.mono (h:eo w S a s) (hs:∀ b,b<w.heap.size→S b→S' b):eo w S' a s:=⟨h.imports.mono hs,h.inputs.mono hs,h.tables.mono hs,h.funcs.mono hs,h.cells.mono hs,h.ei.mono hs,h.stores.mono hs,h.cI.mono hs⟩
theorem eo.bZ (h:eo w S a s) (hb:Below w w w'):eo w' S a s:=h.keep (cB.cA hb)
theorem eo.alloc (h:eo w S a s) (o:Obj):eo (w.alloc o) S a s:=h.bZ (cS _)
theorem eo.all (h:eo w S a s):eo w Any a s:=h.mono fun _ _ _=>trivial
end
end
end
open Go Go.RowKit
section
section
variable {P:Program} {ops:Array Oper} {md:Region.Mode} {C:World→Prop}
def Ix (P:Program) (md:Region.Mode) (ops:Array Oper) (C:World→Prop) (n:Nat) (L:Array Bool→Act→Prop):Nat→Array Bool→Act→Prop
 |0,listed,a=>L listed a
 |f+1,listed,a=>Region.ready md ops listed≠[]∧∀ i∈Region.ready md ops listed,i<n∧qOp P ops C i (Ix P md ops C n L f (listed.setIfInBounds i true)) a
theorem vU {n g:Nat} {L:Array Bool→Act→Prop} {Q:Exit→Act→World→Prop} (hL:∀ listed a w,C w→L listed a→wpAny P md ops Q g listed a w):
 ∀ (f:Nat) (listed:Array Bool) (a:Act) (w:World),C w→Ix P md ops C n L f listed a→wpAny P md ops Q (f+g) listed a w
 |0,listed,a,w,hw,h=>by rw[Nat.zero_add];exact hL _ _ _ hw h
 |f+1,listed,a,w,hw,h=>by
  have e:f+1+g=(f+g)+1:=af;rw[e];exact⟨fun h0=>absurd h0 h.1,fun i hi=>wpOp_of_qOp hw (fun a' w' hw' h'=>vU hL f _ a' w' hw' h') (h.2 i hi).2⟩
theorem Iy {n i:Nat} {oi:Oper} {v:Value} {L:Array Bool→Act→Prop} (hi:ops[i]? =some oi) (hsel:∀ (j:Nat) (o:Oper) cs b,ops[j]? =some o→o.op≠ .select cs b) (hs:Region.sinkB md ops n=true) (hc:Region.chainB md ops n=true) (hn:n<ops.size) (hin:i<n) (hdone:∀ listed a,L listed a→∀ j∈Region.ready md ops listed,n≤j) (f:Nat):∀ (listed:Array Bool) (a:Act),HeadInv md ops n listed→(∀ j oj,ops[j]? =some oj→j≠i→listed.getD j true=false→(∀ e∈oj.after,Region.binds md e=true→e.on≠i)→oi.apart ops oj=true)→i∈Region.ready md ops listed→YieldsIn P ops C oi v a→Ix P md ops C n L f (listed.setIfInBounds i true) (a.put oi.dst v)→Ix P md ops C n L (f+1) listed a:=by
 have early:∀ {listed:Array Bool},HeadInv md ops n listed→i∈Region.ready md ops listed→∀ j∈Region.ready md ops listed,j<n:=fun inv hr j hj=>by
  rcases Nat.lt_or_ge j n with h|h
  (·exact h);exact absurd hj (tail_waits hs hc hn inv _ i rfl hin (mem_ready.1 hr).1 j h)
 induction f with
 |zero=>
  intro listed a inv _ hr hy H;refine⟨fun h=>(by rw[h]at hr;cases hr),fun j hj=>⟨early inv hr j hj,?_⟩⟩;by_cases e:j=i
  (·subst e;exact hy.qOp hi H);have h1:=hdone _ _ H j (ready_mono hj e);have h2:=early inv hr j hj;omega
 |succ f ih=>
  intro listed a inv hfree hr hy H;refine⟨fun h=>(by rw[h]at hr;cases hr),fun j hj=>⟨early inv hr j hj,?_⟩⟩;by_cases e:j=i
  (·subst e;exact hy.qOp hi H);obtain⟨Zc,oj,Rc,hall⟩:=mem_ready.1 hj;have hnot:∀ e∈oj.after,Region.binds md e=true→e.on≠i:=fun e he hb q=>by
   have h1:=hall e he hb;rw[q,getD_both (mem_ready.1 hr).1]at h1;cases h1
  have h2:=qOp_put Rc (hfree j oj Rc e Zc hnot) (fun cs b=>hsel i oi cs b hi) (fun cs b=>hsel j oj cs b Rc) hy (H.2 j (ready_mono hj e)).2;refine qOp_mono (fun a' h3=>ih (listed.setIfInBounds j true) a' (inv.set hj (early inv hr j hj)) (fun k ok hk hki hun hno=>?_) (ready_mono hr (Ne.symm e)) h3.1 (by rw[Array.setIfInBounds_comm _ _ e];exact h3.2)) h2;refine hfree k ok hk hki ?_ hno;by_cases q:j=k
  (·subst q;exact Zc);rw[getD_set_ne true q]at hun;exact hun
theorem EC {n g:Nat} {Lq:Act→Prop} (hsel:Region.noSelect ops=true) (hs:Region.sinkB md ops n=true) (hc:Region.chainB md ops n=true) (hn:n<ops.size):
 ∀ (l:List Oper) (k:Nat) (listed:Array Bool) (a:Act),(∀ j,j<l.length→l[j]? =ops[k+j]?)→k+l.length=n→HeadInv md ops n listed→
 Region.lexHead md ops g l.length k listed=true→wpQuiet P ops C Lq l a→Ix P md ops C n (fun listed' a'=>Region.seqB md ops g n listed'=true∧Lq a') l.length listed a
 |[],k,listed,a,_,hk,_,hB,h=>by
  (obtain rfl:k=n:=by simpa using hk);exact⟨by simpa [Region.lexHead]using hB,h⟩
 |o :: l,k,listed,a,hl,hk,inv,hB,h=>by
  have h0:ops[k]? =some o:=(by simpa using (hl 0 ai).symm);simp only[List.length_cons,Region.lexHead,aag]at hB hk;obtain⟨⟨hr,hf⟩,hB'⟩:=hB;have hkn:k<n:=af;have hr':k∈Region.ready md ops listed:=(by simpa using hr);obtain⟨v,hy,hK⟩:=yieldsIn_of_qOp h0 (show qOp P ops C k (wpQuiet P ops C Lq l) a by unfold qOp;simp only[h0];exact h);refine Iy h0 (Region.noSelect_spec hsel) hs hc hn hkn (fun listed' a' hL=>seqB_ready hL.1) l.length listed a inv (Region.free_spec h0 hf) hr' hy ?_;refine EC hsel hs hc hn l (k+1) _ _ (fun j hj=>?_) af (inv.set hr' hkn) hB' hK;have:=hl (j+1) au;simpa [Nat.add_assoc,Nat.add_comm 1 j]using this
theorem dy {id:Nat} {Q:Exit→Act→World→Prop} {a:Act} {w:World} {l:List Oper} (n:Nat) (hm:P.follows .mixedOrders=true) (hB:Region.lexTailB .any l.toArray n=true) (hC:C w.drew) (h:wpQuiet P l.toArray C (fun a'=>∀ w',C w'→wpList P l.toArray Q (l.drop n) a' w') (l.take n) a):(Code.region id l.toArray true).wp P Q a w:=by
 simp only[Region.lexTailB,aag,decide_eq_true_eq]at hB;obtain⟨⟨⟨⟨hsel,hn⟩,hs⟩,hc⟩,hlex⟩:=hB;have hnl:n<l.length:=(by simpa using hn);have ht:(l.take n).length=n:=au;have hd:(l.drop n).length=l.toArray.size - n:=ai;have inv0:HeadInv .any l.toArray n (Array.replicate l.toArray.size false):=
  ⟨by simp,fun j oj _ hl=>(by rw[getD_replicate_false]at hl;cases hl),fun t _ ht=>getD_in (by simpa using ht) (getD_replicate_false _ _)⟩
 have H:=EC (md:= .any) (g:=l.toArray.size - n) hsel hs hc hn (l.take n) 0 _ a (fun j hj=>by
  have hj':j<n:=(by rw[ht]at hj;exact hj);simp[hj']) (by simpa using ht) inv0 (by rw[ht];exact hlex) h
 refine wp_region_any hm ?_;have key:=vU (Q:=Q) (g:=l.toArray.size - n) (fun listed a' w' hw' hL=>by
  have:=wpAny_of_seq (md:= .any) (Q':=Q) (l.drop n) n listed a' w' (fun j=>by simp[List.getElem?_drop]) (by rw[hd];exact hL.1) (hL.2 w' hw')
  rwa [hd]at this) _ _ _ _ hC H
 rw[ht]at key;have e:n+(l.toArray.size - n)=l.toArray.size:=af;rw[e]at key;exact key
end
def eE (w:World):Type:={w':World // Below w w w'}
instance grew_some {w:World}:Nonempty (eE w):=⟨⟨w,aaf _ _⟩⟩
def eE.at {w:World} (u:eE w):World:=u.1
def dX (w:World):World→Prop:=fun w'=>∃ u:eE w,w'=u.at
section
variable {w:World}
theorem eE.bZ (u:eE w):Below w w u.at:=u.2
theorem eE.cell (u:eE w) {p:Addr} {v:Value} (h:w.cell? p=some v):u.at.cell? p=some v:=(u.bZ.cell (World.block_lt_of_cell? w p h)).trans h
theorem dX.jo:Below w w w.drew:=⟨rfl,rfl,rfl,aaB _,fun _ _=>rfl⟩
theorem dX.drew:dX w w.drew:=⟨⟨w.drew,⟨rfl,rfl,rfl,aaB _,fun _ _=>rfl⟩⟩,rfl⟩
theorem dX.of {w':World} (h:Below w w w'):dX w w':=⟨⟨w',h⟩,rfl⟩
theorem eE.after (u:eE w) {w':World} (h:Below u.at.heap.size u.at w'):dX w w':= .of (u.bZ.trans (h.mono u.bZ.size))
end
variable {P:Program} {w:World}
theorem eC {f:FuncId} {args:Array Value} {u:eE w} {v:Value} (h:Calls P f args u.at fun e w'=>e= .returned v∧Below u.at.heap.size u.at w'):
 Calls P f args u.at fun e w'=>e= .returned v∧dX w w':=h.mono fun _ _ ⟨he,hb⟩=>⟨he,u.after hb⟩
theorem dV {f:FuncId} {args:Array Value} {u:eE w} {v:Value} (h:Calls P f args u.at fun e w'=>e= .returned v∧w'=u.at):
 Calls P f args u.at fun e w'=>e= .returned v∧dX w w':=h.mono fun _ _ ⟨he,hb⟩=>⟨he,hb▸⟨u,rfl⟩⟩
end
end Go.Proofs.YtfppbjfnllhgcaaGreat
namespace Go.Proofs
open Go.Shelf
def zG:Go.Shelf.Ren:=⟨fun|169=>274|n=>n,fun|70=>332|9=>9|0=>0|72=>335|37=>333|127=>355|3=>3|5=>5|n=>n,fun|n=>n⟩
theorem V8:Go.Proofs.Lays.n169 prog zG:=by
 repeat' first|kernel_rfl|(intro;kernel_rfl)|exact Tryz.func274.trans (congrArg some ah)|constructor
theorem vV:Builder.Extra prog zG:=by
 repeat' first|kernel_rfl|(intro;kernel_rfl)|decide|constructor
def Iz:Go.Shelf.Ren:=⟨fun|103=>202|210=>246|206=>281|n=>n,fun|9=>9|4=>4|24=>275|3=>3|n=>n,fun|n=>n⟩
theorem V9:Go.Proofs.Lays.n103 prog Iz:=by
 repeat' first|kernel_rfl|(intro;kernel_rfl)|exact Tryz.func202.trans (congrArg some ah)|exact Tryz.func281.trans (congrArg some ah)|exact Tryz.func246.trans (congrArg some ah)|constructor
end Go.Proofs
namespace Go.Proofs.YtfppbjfnllhgcaaGreat
section
open Go Go.RowKit Go.Proofs
def SaysS (l:List UInt8) (w:World) (e:Ending) (w':World):Prop:=e= .returned (bV ⟨l.toArray⟩)∧Below w w w'
theorem Tryz.sizeBuilder:(Tryz.prog.info? 335).map (·.size)=some 2:=by kernel_rfl
theorem Tryz.liesBuilder:liesAt prog Tryz.prog.depth 335 (2 / Tryz.prog.cellsOf 335) 0 335 1=true:=by kernel_rfl
theorem Pb (b:Nat) (w:World) (h0:b_ w b 0 (.pointer (bY b 0))):Calls prog 301 #[.pointer (bY b 0)] w fun e w'=>e= .returned (.tuple #[])∧w'=w:=by
 obtain⟨j,hj,_⟩:=aaH.1 Tryz.sizeBuilder;go_enter func301,ntmps301;go_wp2;rw[Lib.run_neq_ptr_same w _ underlying332 hj];go_wp2;go_end0;exact⟨rfl,rfl⟩
theorem LF (b:Nat) (w:World) (h0:b_ w b 0 (.pointer none)) (hsh:w.shape? b=some (335,2)) (hfz:w.frozen? (bY b 0)=false):Calls prog 301 #[.pointer (bY b 0)] w fun e w'=>e= .returned (.tuple #[])∧w'=w.setCell (bY b 0) (.pointer (bY b 0)):=by
 obtain⟨j,hj,hjs⟩:=aaH.1 Tryz.sizeBuilder;go_enter func301,ntmps301;go_wp2;rw[Lib.run_to_unsafe w (bY b 0) underlying332 underlying360 hj (by rw[hjs];decide) hsh (Nat.zero_lt_succ 1)];simp only[Result.andThen];rw[Oper.upon_value];go_wp2;rw[run_callFunc_extern func313 ah ah ah (e:=Extern.AbiNoEscape.same) ah];rw[Lib.run_noEscape];simp only[Result.andThen];rw[Oper.upon_value];go_wp2;rw[Lib.run_from_unsafe w (bY b 0) underlying360 underlying332 hj hsh Tryz.liesBuilder];simp only[Result.andThen];rw[Oper.upon_value];go_wp2;go_end0;exact⟨rfl,rfl⟩
abbrev TB:Nat:=335
abbrev TU:Nat:=5
theorem Tryz.infoByte:(Tryz.prog.info? 5).map (fun i=>(i.zero,i.size,i.bytes))=some (some (.int .u8 0),1,1):=by kernel_rfl
theorem Zd (B b:Nat) (bs:List Value) (w:World) (h:Lib.IsBuilderF TB TU B b bs w):Calls prog 301 #[.pointer (bY b 0)] w fun e w'=>e= .returned (.tuple #[])∧Lib.BuilderAtF TB TU B b (.pointer (bY b 0)) bs w'∧Below B w w':=by
 rcases h with h|h
 (·refine(LF b w h.cell0 h.shape h.frozen0).mono ?_;rintro e w' ⟨rfl,rfl⟩;exact⟨rfl,h.used _,(aaf B w).setCell (p:=bY b 0) h.1 _⟩);refine(Pb b w h.cell0).mono ?_;rintro e w' ⟨rfl,rfl⟩;exact⟨rfl,h,aaf B _⟩
theorem RV (B b:Nat) (l:List UInt8) (w:World) (h:Lib.IsBuilderF TB TU B b (Lib.byteCells l) w) (hBw:B≤w.heap.size):
 Calls prog 274 #[.pointer (some ⟨b,0,none⟩)] w fun e w'=>e= .returned (.string ⟨l.toArray⟩)∧Below B w w':=
 (Any.Builder_String_any_k V8 vV B b l w h hBw).mono fun e w' q=>⟨q.1,q.2.2.1⟩
theorem BX (B b:Nat) (bs:List Value) (c:Int) (w:World) (h:Lib.IsBuilderF TB TU B b bs w) (hlen:bs.length+1≤140737488355328) (hBw:B≤w.heap.size):Calls prog 273 #[.pointer (bY b 0),.int .u8 c] w fun e w'=>e= .returned .nilIface∧Lib.IsBuilderF TB TU B b (bs++[.int .u8 c]) w'∧Below B w w':=by
 obtain⟨i0,hi,hz0,hz1,hz2⟩:=info_parts Tryz.infoByte;have H:=aa h;clear h;go_enter func273,ntmps273;go_wp2_with (go_at_call 301;refine(Zd B b bs _ H.o).mono ?_);rintro e w1 ⟨rfl,h1,hb1⟩;obtain⟨hB,v,hbk,hown,hne⟩:=h1;have c0:b_ w1 b 0 (.pointer (bY b 0)):=(by rw[Lib.cell_of_heap hbk];rfl);have c1:b_ w1 b 1 v:=(by rw[Lib.cell_of_heap hbk];rfl);have V_:=aa hbk;have HOW:=aa hown;have HNE:=aa hne;have gT:=aa hb1;have hw1:=hb1.size;clear hbk hown hne hb1;go_wp2_with (at_builtin;refine wpList_append_ownF _ rfl _ _ 333 rfl B 5 i0 (.int .u8 0) 1 1 underlying333 hi hz0 hz1 hz2 rfl ak _ _ _ rfl (HOW.o.alloc _) (bY w1 0) 1 1 [.int .u8 c] rfl rfl ?c1 ?c2 ?c3 ?c4 ?c5 ?_);case c1=>
  intro j u hj
  match j,hj with
  |0,hj=>simp at hj;subst hj;simp[Addr.add]
 (case c2=>intro u hu;simp at hu;subst hu;rfl);(case c3=>unfold maxLen;omega);(case c4=>omega);(case c5=>simp;omega);intro v' w2 hown' hgrow _;have hlt:b<w1.heap.size:=(Array.getElem?_eq_some_iff.1 V_.o).1;have hb2:w2.heap[b]? =some (.cells #[.pointer (bY b 0),v] 335 (0,0)):=by
  rw[hgrow.block b au (fun e=>HNE.o e.symm),Lib.alloc_old w1 _ b hlt];exact V_.o
 have d0:b_ w2 b 0 (.pointer (bY b 0)):=(by rw[Lib.cell_of_heap hb2];rfl);have d1:b_ w2 b 1 v:=(by rw[Lib.cell_of_heap hb2];rfl);have f1:w2.frozen? (bY b 1)=false:=Lib.frozen_of_heap hb2 1;obtain⟨ao,n',cap,rfl⟩:∃ ao n' cap,v'=bW ao n' cap:=by
  rcases hown'.2 with⟨hv,_⟩|⟨g,cap,cur,fz,hv,_⟩
  (·exact⟨_,_,_,hv⟩);exact⟨_,_,_,hv⟩
 have HO':=aa hown';have HG:=aa hgrow;have dG:=aa hb2;clear hown' hgrow hb2;go_wp2;go_ret;refine⟨rfl,.inr ?_,?_⟩
 (·exact Lib.BuilderAtF.put (T:=TB) (e:=TU) hB dG.o (bs':=bs++[.int .u8 c]) (by simpa using HO'.o) ak);exact((gT.o.alloc af _).grown HG.o au (fun k hk=>(HOW.o.lt k hk).1)).setCell (p:=bY b 1) hB _
end
open Go Go.RowKit Kb Sh Go.Proofs
theorem Pc (c:UInt8) (w:World):Calls prog 242 #[.int .u8 (c.toNat:Int)] w fun e w'=>e= .returned (.bool (jB c))∧w=w':=by
 (have hb:(c.toNat:Int)<256:=by have:=c.toNat_lt;omega);have e1:jB c=(decide (32≤(c.toNat:Int))&&decide ((c.toNat:Int)≤126)):=by
  unfold jB;rw[Bool.eq_iff_iff];simp[UInt8.le_iff_toNat_le];omega
 rw[e1];clear e1;generalize (c.toNat:Int)=x at hb ⊢;(by_cases h1:32≤x<;>by_cases h2:x≤126<;>first|omega|(go_enter func242,ntmps242;go_wp2;go_ret;exact⟨by simp[h1,h2],rfl⟩))
theorem BZ (s:ByteArray) (w:World) (hs:s.size≤maxLen):Calls prog 188 #[bV s,.func (.func 242) #[] #[]] w fun e w'=>e= .returned (bU (jH jB s.data.toList))∧w=w':=by
 unfold maxLen at hs;go_enter func188,ntmps188;go_wp2;go_loop [5] (fun i=>∃ k:Nat,k≤s.size∧i=bU k∧Hid (∀ i,i<k→∀ c,s.data.toList[i]? =some c→jB c=true)) (fun i=>s.size - (intOf i).toNat);(case atStart=>exact⟨0,aaG _,rfl,fun i hi=>absurd hi (Nat.not_lt_zero _)⟩);obtain⟨k,hk,rfl,HA⟩:=hrel;by_cases hlt:k<s.size
 ·have hsz:s.data.toList.length=s.size:=eW s;have BR:s.data.toList[k]? =some s[k]:=bq;have HG:=aa BR;have HS:=aa hsz;clear BR hsz;have hin:=fun w=>Pc s[k] w;cases hq:jB s[k]with
  |true=>
   have HQ:=aa hq;rw[hq]at hin;have HI:=aa hin;clear hq hin;go_wp2_with (go_at_call 242;refine(HI.o _).mono ?_;rintro e w' ⟨rfl,rfl⟩);go_round;case rel=>
    refine⟨k+1,by omega,by go_num,fun i hi c hc=>?_⟩;by_cases e:i=k
    (·subst e;rw[HG.o]at hc;cases hc;exact HQ.o);exact HA.o i af c hc
   (case measure=>simp[intOf];omega)
  |false=>
   have HQ:=aa hq;rw[hq]at hin;have HI:=aa hin;clear hq hin;go_wp2_with (go_at_call 242;refine(HI.o _).mono ?_;rintro e w' ⟨rfl,rfl⟩);go_ret;refine⟨?_,rfl⟩;rw[kO jB s.data.toList k HA.o (by rw[HS.o];omega) (fun c hc=>by rw[HG.o]at hc;cases hc;exact HQ.o)];rfl
 have hsz:s.data.toList.length=s.size:=eW s;have HS:=aa hsz;clear hsz;go_wp2;go_ret;refine⟨?_,rfl⟩;rw[kO jB s.data.toList k HA.o (by rw[HS.o];omega) (fun c hc=>by rw[List.getElem?_eq_none (by rw[HS.o];omega)]at hc;cases hc)];rfl
def uN (c:UInt8):List UInt8:=if c=34∨c=92 then[92,c]else[c]
theorem RX (c:UInt8):(uN c).length≤2:=by unfold uN;split<;>simp
theorem NR:∀ (l:Bytes),(l.flatMap uN).length≤2*l.length
 |[]=>by simp
 |c :: l=>by
  have h1:=RX c;have h2:=NR l;simp only[List.flatMap_cons,aao,List.length_cons];omega
theorem sB (l:List UInt8) (c:UInt8):Lib.byteCells l++[.int .u8 (c.toNat:Int)]=Lib.byteCells (l++[c]):=by
 rw[Lib.byteCells_append];rfl
theorem IA (l:List UInt8):(Lib.byteCells l).length=l.length:=by simp[Lib.byteCells]
def ED (s:Bytes) (B:Nat) (w wr:World) (k:Nat):Prop:=Lib.IsBuilderF TB TU B B (Lib.byteCells (34 :: (s.take k).flatMap uN)) wr∧Below B w wr
theorem ED.len {s:Bytes} {B k:Nat} {w wr:World} (hk:k≤s.length):(Lib.byteCells (34 :: (s.take k).flatMap uN)).length≤2*s.length+1:=by
 have:=NR (s.take k);rw[IA,List.length_cons];rw[aaq]at this;omega
theorem IB (s:ByteArray) (w:World) (hs:s.size≤1000000):Calls prog 243 #[bV s] w (SaysS (escB s.data.toList) w):=by
 have sD:=eW s;obtain⟨B,hB⟩:∃ B,B=w.heap.size:=⟨_,rfl⟩;have HI0:=aa (Lib.IsBuilderF.of (Lib.fresh_isBuilder TB TU w));go_enter func243,ntmps243;go_wp2_with (go_at_call 273;refine(BX w w (Lib.byteCells []) 34 _ HI0.o (by simp[Lib.byteCells]) ai).mono ?_);rintro e w1 ⟨rfl,hi1,hb1⟩;have HE1:=aa (show ED s.data.toList w w w1 0 from⟨(sB [] 34)▸hi1,((aaf _ w).alloc aac _).trans hb1⟩);have hw1:w.heap.size≤w1:=HE1.o.2.size;clear hi1 hb1;go_wp2;go_loopw [8] (fun i wr=>∃ k:Nat,k≤s.size∧i=bU (k:Int)∧Hid (ED s.data.toList w w wr k)) (fun i _=>s.size - (intOf i).toNat);(case atStart=>exact⟨0,aaG _,rfl,HE1.o⟩);obtain⟨k,hk,rfl,HE⟩:=hrel;have hwr:=HE.o.2.size;have RY:=ED.len (B:=w) (w:=w) (wr:=wr) (s:=s.data.toList) (k:=k) af;rw[sD]at RY;by_cases hlt:k<s.size
 ·have BR:s.data.toList[k]? =some s[k]:=bq;have htk:(s.data.toList.take (k+1))=s.data.toList.take k++[s[k]]:=(by rw[List.take_add_one,BR];rfl);have j4:=aa (show 34 :: (s.data.toList.take (k+1)).flatMap uN=(34 :: (s.data.toList.take k).flatMap uN)++uN s[k] by rw[htk];simp);clear htk BR;generalize hL:34 :: (s.data.toList.take k).flatMap uN=L at j4 RY;have HL:=aa hL;(have Bo:Lib.IsBuilderF TB TU w w (Lib.byteCells L) wr:=by have:=HE.o.1;rw[hL]at this;exact this);have HI:=aa Bo;have sF:=aa HE.o.2;clear hL Bo HE;have e1:((s[k].toNat:Int)==34)=decide (s[k]=34):=aN;have e2:((s[k].toNat:Int)==92)=decide (s[k]=92):=aN;by_cases hq:s[k]=34∨s[k]=92
  ·have HQ:=aa (show uN s[k]=[92,s[k]] by unfold uN;rw[if_pos hq]);have h9:((s[k].toNat:Int)==34)=true∨(((s[k].toNat:Int)==34)=false∧((s[k].toNat:Int)==92)=true):=by
    rw[e1,e2];by_cases h:s[k]=34
    (·left;simp[h]);right;simp[h]at hq ⊢;exact hq
   clear e1 e2 hq;rcases h9 with h9|⟨h9,h8⟩<;>
    (go_wp2_with fail
     refine(BX w w (Lib.byteCells L) 92 _ HI.o af hwr).mono ?_
     rintro e w2 ⟨rfl,hi2,hb2⟩
     have zH:=aa (show Lib.IsBuilderF TB TU w w (Lib.byteCells (L++[92])) w2 from(sB L 92)▸hi2)
     have dG:=aa (sF.o.trans hb2)
     have hw2:w.heap.size≤w2:=dG.o.size
     have hl2:(Lib.byteCells (L++[92])).length+1≤140737488355328:=by rw[IA]at RY ⊢;simp;omega
     clear hi2 hb2
     go_wp2_with fail
     refine(BX w w (Lib.byteCells (L++[92])) _ _ zH.o hl2 hw2).mono ?_
     rintro e w3 ⟨rfl,RZ,hb3⟩
     have Ze:=aa (show ED s.data.toList w w w3 (k+1)from⟨by rw[j4.o,HQ.o];have:=RZ;rw[sB]at this;simpa using this,dG.o.trans hb3⟩)
     clear RZ hb3
     go_wp2_with fail
     go_roundw
     case rel=>exact⟨k+1,by omega,by go_num,Ze.o⟩
     case measure=>simp[intOf];omega)
  have HQ:=aa (show uN s[k]=[s[k]] by unfold uN;rw[if_neg hq]);have h9:((s[k].toNat:Int)==34)=false:=(by rw[e1];simp;exact fun h=>hq (.inl h));have h8:((s[k].toNat:Int)==92)=false:=(by rw[e2];simp;exact fun h=>hq (.inr h));clear e1 e2 hq;go_wp2_with fail;refine(BX w w (Lib.byteCells L) _ _ HI.o af hwr).mono ?_;rintro e w3 ⟨rfl,RZ,hb3⟩;have Ze:=aa (show ED s.data.toList w w w3 (k+1)from⟨by rw[j4.o,HQ.o];have:=RZ;rw[sB]at this;exact this,sF.o.trans hb3⟩);clear RZ hb3;go_wp2;go_roundw;exact⟨k+1,by omega,by go_num,Ze.o⟩;simp[intOf];omega
 (obtain rfl:k=s.size:=by omega);have HI:=aa (show Lib.IsBuilderF TB TU w w (Lib.byteCells (34 :: s.data.toList.flatMap uN)) wr by
  have:=HE.o.1;rw[aax af]at this;exact this)
 have hln2:(Lib.byteCells (34 :: s.data.toList.flatMap uN)).length+1≤140737488355328:=by
  rw[aax af]at RY;omega
 have sF:=aa HE.o.2;go_wp2_with fail;refine(BX w w _ 34 _ HI.o hln2 hwr).mono ?_;rintro e w3 ⟨rfl,RZ,hb3⟩;have HI3:=aa (show Lib.IsBuilderF TB TU w w (Lib.byteCells (escB s.data.toList)) w3 from(sB _ 34)▸RZ);have eF:=aa (sF.o.trans hb3);have hw3:=eF.o.size;clear RZ hb3;go_wp2_with fail;refine(RV w w _ _ HI3.o hw3).mono ?_;rintro e w4 ⟨rfl,hb4⟩;have gC:=aa (eF.o.trans hb4);clear hb4;go_wp2;go_ret;exact⟨rfl,gC.o⟩
theorem EE (s:ByteArray) (w:World) (hs:s.size≤maxLen):Calls prog 196 #[bV s] w fun e w'=>(∃ t,e= .returned (.tuple #[bV t,.bool (kQ s)]))∧Below w w w':=by
 have sD:=eW s;by_cases h4:s.size≤400
 ·have hsp:=fun W=>BZ s W hs;have hle:=r_ jB s.data.toList;have hall:=xT jB s.data.toList;rw[sD]at hle hall;have HEs:=aa (fun W=>IB s W af);have HQ:kQ s=decide (jH jB s.data.toList=s.size):=by
   unfold kQ;rw[Bool.eq_iff_iff];simp only[aag,decide_eq_true_eq];exact⟨fun h=>hall.2 h.2,fun h=>⟨h4,hall.1 h⟩⟩
  generalize jH jB s.data.toList=n at hsp HQ hle;have NJ:=aa hsp;have h4':decide (400<(s.size:Int))=false:=au;clear hall hsp;by_cases hn:n=s.size
  (·have F3:=aa (show kQ s=true by rw[HQ];simpa using hn);have hnb:((n:Int) != (s.size:Int))=false:=au;clear HQ hn;go_enter func196,ntmps196;go_wp2_with (first|(go_at_call 188;refine(NJ.o _).mono ?_;rintro e w' ⟨rfl,rfl⟩)|(go_at_call 243;refine(HEs.o _).mono ?_;rintro e w' ⟨rfl,hb1⟩));go_ret2;rw[F3.o];exact⟨⟨_,rfl⟩,hb1⟩);have F3:=aa (show kQ s=false by rw[HQ];simpa using hn);have hnb:((n:Int) != (s.size:Int))=true:=au;clear HQ hn;go_enter func196,ntmps196;go_wp2_with (first|(go_at_call 188;refine(NJ.o _).mono ?_;rintro e w' ⟨rfl,rfl⟩));go_ret2;rw[F3.o];exact⟨⟨_,rfl⟩,aaf _ _⟩
 have F3:=aa (show kQ s=false by unfold kQ;simp[h4]);have h4':decide (400<(s.size:Int))=true:=au;go_enter func196,ntmps196;go_wp2_with fail;go_ret2;rw[F3.o];exact⟨⟨_,rfl⟩,aaf _ _⟩
end Go.Proofs.YtfppbjfnllhgcaaGreat
