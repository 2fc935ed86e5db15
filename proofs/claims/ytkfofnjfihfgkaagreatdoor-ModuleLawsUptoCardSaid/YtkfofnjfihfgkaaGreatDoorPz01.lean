/- Parts of the proof, packed (Big to Sh); each theorem bears its own conditions. -/
import Derived.Test.YtkfofnjfihfgkaaGreatDoorProg
import Derived.WalkKit
import Derived.WalkLawsBesides
import Derived.Below
import Derived.Lib.Hide
import Derived.LoopTactic
import Derived.Laws.OwnMore
import Derived.Deep.Draws
import Derived.Laws.Rows
import Derived.Deep.QuietTactic
import Derived.BigQuiet
import Derived.Laws.BitsAllLaws
import Derived.Laws.BitsLemmas
import Derived.Outline
import Derived.Deep.OwnRows
import Derived.Laws.MakeOwn
import Derived.Maps.Own
import Derived.Maps.OwnOps
import Derived.Maps.OwnSet
import Derived.Maps.Views
import Derived.Carry
import Derived.StillTailTactics
import Derived.Lib.Strings
set_option linter.unusedVariables false
set_option linter.unusedSimpArgs false
set_option maxRecDepth 100000
set_option maxHeartbeats 8000000
open Go.Proofs.Tryz
open Go.Lib renaming hid → aa
theorem Go.RowKit.Hid.o {p : Prop} (h : Go.RowKit.Hid p) : p := h
theorem af {p:Prop} (h:p:=by omega):p:=h
theorem aj {p:Prop} (h:p:=by simp):p:=h
theorem aO {p:Prop} (h:p:=by simpa using h):p:=h
theorem aq {p:Prop} (h:p:=by simp;omega):p:=h
theorem bf {p:Prop} (h:p:=by rw[e];rfl):p:=h
theorem aad {p:Prop} (h:p:=by simpa using hi):p:=h
theorem ag {p:Prop} (h:p:=by decide):p:=h
theorem bA {p:Prop} (h:p:=by cases h):p:=h
theorem aae {p:Prop} (h:p:=by simpa using hc):p:=h
theorem aI {p:Prop} (h:p:=by simpa using h2):p:=h
theorem bH {p:Prop} (h:p:=by rw[List.getElem?_eq_getElem (by omega)];rfl):p:=h
namespace Bg
section
def val:List Nat→Nat
 |[]=>0
 |d :: r=>d+1048576*val r
def gj (l:List Nat):Prop:=∀ d∈l,d<1048576
theorem gj.nil:gj []:=by intro d h;cases h
theorem gj.cons {d:Nat} {l:List Nat} (h:d<1048576) (hl:gj l):gj (d :: l):=by
 intro x hx;rcases List.mem_cons.1 hx with rfl|hx
 (·exact h);exact hl x hx
theorem gj.tail {d:Nat} {l:List Nat} (h:gj (d :: l)):gj l:=fun x hx=>h x (List.mem_cons_of_mem _ hx)
theorem gj.head {d:Nat} {l:List Nat} (h:gj (d :: l)):d<1048576:=h d (List.mem_cons_self ..)
theorem gj.at_ {l:List Nat} (h:gj l) {i:Nat} (hi:i<l.length):l[i]<1048576:=h _ (List.getElem_mem hi)
theorem gj.cM {l:List Nat} (h:gj l) (i:Nat) {d:Nat} (hd:d<1048576):gj (l.set i d):=by
 intro x hx;rcases List.mem_or_eq_of_mem_set hx with hx|rfl
 (·exact h x hx);exact hd
theorem gj.oT {l:List Nat} (h:gj l) (n:Nat):gj (l.take n):=fun x hx=>h x (List.mem_of_mem_take hx)
theorem gj.PL {l:List Nat} (h:gj l) (n:Nat):gj (l.drop n):=fun x hx=>h x (List.mem_of_mem_drop hx)
theorem gj.app {a b:List Nat} (h:gj a) (k:gj b):gj (a++b):=by
 intro x hx;rcases List.mem_append.1 hx with hx|hx
 (·exact h x hx);exact k x hx
theorem gj.zeros (n:Nat):gj (List.replicate n 0):=fun x hx=>by
 rw[List.eq_of_mem_replicate hx];omega
theorem Zb (n:Nat):0<1048576 ^ n:=Nat.pow_pos af
theorem pow_succ' (n:Nat):1048576 ^ (n+1)=1048576*1048576 ^ n:=by rw[Nat.pow_succ,Nat.mul_comm]
theorem nQ:∀ a b:List Nat,val (a++b)=val a+1048576 ^ a.length*val b
 |[],b=>by simp[val]
 |d :: r,b=>by
  have ih:=nQ r b;simp only[List.cons_append,val,ih,List.length_cons,pow_succ',Nat.mul_add,Nat.mul_assoc];omega
theorem yh:∀ n,val (List.replicate n 0)=0
 |0=>rfl
 |n+1=>by simp[List.replicate_succ,val,yh n]
theorem jT:∀ {l:List Nat},gj l→val l<1048576 ^ l.length
 |[],_=>by simp[val]
 |d :: r,h=>by
  have ih:=jT h.tail;have hd:=h.head;simp only[val,List.length_cons,pow_succ'];omega
theorem kU {l:List Nat} {i:Nat} (h:i<l.length):l.getD i 0=l[i]:=by simp[h]
theorem gj.get {l:List Nat} (h:gj l) (i:Nat):l.getD i 0<1048576:=by
 rcases Nat.lt_or_ge i l.length with hi|hi
 (·rw[kU hi];exact h.at_ hi);simp[hi]
theorem tZ:∀ (l:List Nat) (i d:Nat) (hi:i<l.length),val (l.set i d)+l.getD i 0*1048576 ^ i=val l+d*1048576 ^ i
 |[],_,_,h=>absurd h aj
 |x :: r,0,d,_=>by simp[val];omega
 |x :: r,i+1,d,h=>by
  have h':i<r.length:=aO;have ih:=tZ r i d h';simp only[List.set_cons_succ,val,List.getD_cons_succ,pow_succ'];have e1:r.getD i 0*(1048576*1048576 ^ i)=1048576*(r.getD i 0*1048576 ^ i):=(by rw[Nat.mul_left_comm]);have e2:d*(1048576*1048576 ^ i)=1048576*(d*1048576 ^ i):=(by rw[Nat.mul_left_comm]);rw[e1,e2];omega
theorem eG (l:List Nat) (i:Nat) (h:i<l.length):val (l.take (i+1))=val (l.take i)+l.getD i 0*1048576 ^ i:=by
 rw[kU h,List.take_succ_eq_append_getElem h,nQ,List.length_take,Nat.min_eq_left (Nat.le_of_lt h)];simp[val,Nat.mul_comm]
theorem nX (l:List Nat) (i:Nat) (h:i<l.length):val (l.drop i)=l.getD i 0+1048576*val (l.drop (i+1)):=by
 rw[kU h,List.drop_eq_getElem_cons h,val]
theorem lB (l:List Nat) (i:Nat) (h:i≤l.length):val l=val (l.take i)+1048576 ^ i*val (l.drop i):=by
 have:=nQ (l.take i) (l.drop i);rw[List.take_append_drop,List.length_take,Nat.min_eq_left h]at this;exact this
theorem td {l:List Nat} (h:∀ d∈l,d=0):val l=0:=by
 induction l with
 |nil=>rfl
 |cons d r ih=>
  have h0:=h d (List.mem_cons_self ..);have h1:=ih fun x hx=>h x (List.mem_cons_of_mem _ hx);simp[val,h0,h1]
theorem th:∀ {l:List Nat},val l=0→∀ d∈l,d=0
 |[],_=>fun d h=>by cases h
 |x :: r,h=>fun d hd=>by
  simp only[val]at h;rcases List.mem_cons.1 hd with rfl|hd
  (·omega);exact th af d hd
def gm (n:Nat):List Nat:=if h:n=0 then[]else n % 1048576 :: gm (n / 1048576)
termination_by n
decreasing_by omega
theorem gp:gm 0=[]:=by rw[gm];simp
theorem t_ {n:Nat} (h:n≠0):gm n=n % 1048576 :: gm (n / 1048576):=by rw[gm];simp[h]
theorem jP (n:Nat):val (gm n)=n:=by
 induction n using Nat.strongRecOn with
 |_ n ih=>
  by_cases h:n=0
  (·subst h;rw[gp];rfl);rw[t_ h,val,ih _ af];omega
theorem nR (n:Nat):gj (gm n):=by
 induction n using Nat.strongRecOn with
 |_ n ih=>
  by_cases h:n=0
  (·subst h;rw[gp];exact gj.nil);rw[t_ h];exact gj.cons af (ih _ af)
theorem nY (n:Nat):gm n=[]↔n=0:=by
 constructor
 (·intro h;have:=jP n;rw[h]at this;simpa [val]using this.symm);rintro rfl;exact gp
def Canon (l:List Nat):Prop:=gj l∧∀ h:l≠[],l.getLast h≠0
theorem qQ (n:Nat):Canon (gm n):=by
 refine⟨nR n,?_⟩;induction n using Nat.strongRecOn with
 |_ n ih=>
  by_cases h:n=0
  (·subst h;intro h;exact absurd gp h);intro hne;by_cases h2:n / 1048576=0
  (·have e:gm n=[n % 1048576]:=(by rw[t_ h,h2,gp]);simp only[e,List.getLast_singleton];omega);have e:=t_ h;have h3:gm (n / 1048576)≠[]:=fun k=>h2 ((nY _).1 k);have:=ih (n / 1048576) af h3;simp only[e];rw[List.getLast_cons h3];exact this
theorem kN:∀ {l:List Nat},Canon l→l=gm (val l)
 |[],_=>by rw[val,gp]
 |d :: r,⟨h,hl⟩=>by
  have hd:=h.head;have hr:Canon r:=⟨h.tail,fun hne=>by have:=hl aj;rwa [List.getLast_cons hne]at this⟩;have ih:=kN hr;have hne:val (d :: r)≠0:=by
   rw[val];intro hz;have h1:d=0:=af;have h2:val r=0:=af;rw[h2,gp]at ih;subst ih;have:=hl aj;simp at this;exact this h1
  rw[t_ hne,val];have e1:(d+1048576*val r) % 1048576=d:=af;have e2:(d+1048576*val r) / 1048576=val r:=af;rw[e1,e2, ← ih]
theorem PM {l:List Nat} {n:Nat} (hd:gj l) (hn:n≤l.length) (hz:∀ d∈l.drop n,d=0) (hl:0<n→l.getD (n - 1) 0≠0):l.take n=gm (val l):=by
 have hv:val l=val (l.take n):=(by rw[lB l n hn,td hz];simp);rw[hv];refine kN ⟨hd.oT n,fun hne=>?_⟩;have h0:0<n:=by
  rcases Nat.eq_zero_or_pos n with rfl|h
  (·simp at hne);exact h
 rw[List.getLast_eq_getElem];have:=hl h0;rw[kU af]at this;simp only[List.length_take,Nat.min_eq_left hn,List.getElem_take];exact this
theorem ua:∀ {l:List Nat},gj l→∃ k,l=gm (val l)++List.replicate k 0
 |[],_=>⟨0,by simp[val,gp]⟩
 |d :: r,h=>by
  obtain⟨k,hk⟩:=ua h.tail;have hd:=h.head;by_cases hz:val (d :: r)=0
  (·rw[hz,gp];refine⟨(d :: r).length,?_⟩;rw[List.nil_append];exact List.eq_replicate_iff.2 ⟨rfl,th hz⟩);refine⟨k,?_⟩;rw[t_ hz];have e1:val (d :: r) % 1048576=d:=(by simp only[val];omega);have e2:val (d :: r) / 1048576=val r:=(by simp only[val];omega);rw[e1,e2,List.cons_append, ← hk]
theorem ud {l:List Nat} (h:gj l):(gm (val l)).length≤l.length:=by
 obtain⟨k,hk⟩:=ua h;have:=congrArg List.length hk;simp at this;omega
theorem wk {l:List Nat} (h:gj l):gm (val l)=l.take (gm (val l)).length:=by
 obtain⟨k,hk⟩:=ua h;(conv=>rhs;rw[hk]);simp[nQ,yh,jP]
theorem nZ {l:List Nat} (h:Canon l) (hne:l≠[]):1048576 ^ (l.length - 1)≤val l:=by
 have hs:=lB l (l.length - 1) af;have hpos:0<l.length:=List.length_pos_iff.2 hne;have hd:=nX l (l.length - 1) af;have hl:=h.2 hne;rw[List.getLast_eq_getElem, ← kU]at hl;have h1:1≤val (l.drop (l.length - 1)):=af;have:=Nat.mul_le_mul_left (1048576 ^ (l.length - 1)) h1;omega
theorem qH {n k:Nat} (h:n<1048576 ^ k):(gm n).length≤k:=by
 rcases Nat.lt_or_ge k (gm n).length with hlt|hge
 (·have h1:=nZ (qQ n) (fun e=>by rw[e]at hlt;simp at hlt);rw[jP]at h1;have h3:1048576 ^ k≤1048576 ^ ((gm n).length - 1):=Nat.pow_le_pow_right af af;omega);exact hge
theorem ki {m n:Nat} (h:m≤n):(gm m).length≤(gm n).length:=by
 refine qH ?_;have:=jT (nR n);rw[jP]at this;omega
theorem Uo {a b:List Nat} (ha:gj a) (hb:Canon b) (h:a.length<b.length):val a<val b:=by
 have h1:=jT ha;(have hne:b≠[]:=fun e=>by subst e;simp at h);have h2:=nZ hb hne;have h3:1048576 ^ a.length≤1048576 ^ (b.length - 1):=Nat.pow_le_pow_right af af;omega
theorem Up {a b:List Nat} (ha:gj a) (hlen:a.length=b.length) (i:Nat) (hi:i<a.length) (hup:a.drop (i+1)=b.drop (i+1)) (hlt:a.getD i 0<b.getD i 0):val a<val b:=by
 rw[lB a i af,lB b i af,nX a i hi,nX b i af,hup];have h1:=jT (ha.oT i);rw[List.length_take,Nat.min_eq_left af]at h1;have h2:1048576 ^ i*(a.getD i 0+1048576*val (b.drop (i+1)))+1048576 ^ i≤1048576 ^ i*(b.getD i 0+1048576*val (b.drop (i+1))):=by
  have:1048576 ^ i*(a.getD i 0+1048576*val (b.drop (i+1))+1)≤1048576 ^ i*(b.getD i 0+1048576*val (b.drop (i+1))):=Nat.mul_le_mul_left _ af;rw[Nat.mul_add,Nat.mul_one]at this;exact this
 omega
def wm (x y:Nat):Int:=if x<y then -1 else if x=y then 0 else 1
theorem Gn {x y:Nat} (h:x<y):wm x y=-1:=if_pos h
theorem Gp {x y:Nat} (h:x=y):wm x y=0:=by unfold wm;rw[if_neg af,if_pos h]
theorem Bn {x y:Nat} (h:y<x):wm x y=1:=by unfold wm;rw[if_neg af,if_neg af]
theorem get_le (l:List Nat) (i:Nat):l.getD i 0*1048576 ^ i≤val l:=by
 rcases Nat.lt_or_ge i l.length with hi|hi
 (·have:=tZ l i 0 hi;omega);simp[hi]
theorem Rk (out:List Nat) (j x y c n D:Nat) (hj:j<out.length) (h:val out+c*1048576 ^ j=D) (hn:n=out.getD j 0+x*y+c):val (out.set j (n % 1048576))+(n / 1048576)*1048576 ^ (j+1)=D+x*(y*1048576 ^ j):=by
 have hs:=tZ out j (n % 1048576) hj;have e:n % 1048576*1048576 ^ j+n / 1048576*1048576 ^ (j+1)=n*1048576 ^ j:=by
  rw[pow_succ', ← Nat.mul_assoc, ← Nat.add_mul];congr 1;omega
 have e2:n*1048576 ^ j=out.getD j 0*1048576 ^ j+x*(y*1048576 ^ j)+c*1048576 ^ j:=(by rw[hn,Nat.add_mul,Nat.add_mul,Nat.mul_assoc]);omega
theorem Rl (o x y c:Nat) (ho:o<1048576) (hx:x<1048576) (hy:y<1048576) (hc:c<1048576):o+x*y+c<1099511627776∧(o+x*y+c) / 1048576<1048576:=by
 have:x*y≤1048575*1048575:=Nat.mul_le_mul af af;omega
theorem Zc (out:List Nat) (m c D:Nat) (hm:m<out.length) (h:val out+c*1048576 ^ m=D) (hD:D<1048576 ^ (m+1)):out.getD m 0+c<1048576∧val (out.set m (out.getD m 0+c))=D:=by
 have hg:=get_le out m;have hs:=tZ out m (out.getD m 0+c) hm;rw[Nat.add_mul]at hs;refine⟨?_,by omega⟩;have h1:(out.getD m 0+c)*1048576 ^ m<1048576*1048576 ^ m:=by
  rw[Nat.add_mul, ← pow_succ'];omega
 exact Nat.lt_of_mul_lt_mul_right h1
theorem Rm {a b:List Nat} {i:Nat} (ha:gj a) (hb:gj b) (hi:i≤a.length):val (a.take i)*val b<1048576 ^ (i+b.length):=by
 have h1:=jT (ha.oT i);rw[List.length_take,Nat.min_eq_left hi]at h1;have h2:=jT hb;rw[Nat.pow_add];exact Nat.mul_lt_mul'' h1 h2
theorem Uq (a b:List Nat) (i:Nat) (hi:i<a.length):val (a.take (i+1))*val b=val (a.take i)*val b+a.getD i 0*(1048576 ^ i*val b):=by
 rw[eG a i hi,Nat.add_mul,Nat.mul_assoc]
theorem Ur (b:List Nat) (x i k:Nat) (hk:k<b.length):x*(1048576 ^ i*val (b.take (k+1)))=x*(1048576 ^ i*val (b.take k))+x*(b.getD k 0*1048576 ^ (i+k)):=by
 rw[eG b k hk,Nat.mul_add,Nat.mul_add,Nat.pow_add];congr 2;rw[Nat.mul_left_comm]
theorem Mo (a out:List Nat) (i d r:Nat) (hi:i<a.length) (hl:out.length=a.length) (hr:r<d) (h:val (out.drop (i+1))*d+r=val (a.drop (i+1))):val ((out.set i ((r*1048576+a.getD i 0) / d)).drop i)*d+(r*1048576+a.getD i 0) % d=val (a.drop i):=by
 have e1:val ((out.set i ((r*1048576+a.getD i 0) / d)).drop i)=(r*1048576+a.getD i 0) / d+1048576*val (out.drop (i+1)):=by
  rw[nX _ i aq];congr 1
  (·rw[kU aq];simp);rw[List.drop_set_of_lt af]
 rw[e1,nX a i hi, ← h,Nat.add_mul];have e2:=Nat.div_add_mod (r*1048576+a.getD i 0) d;rw[Nat.mul_comm d]at e2;rw[Nat.mul_add,Nat.mul_assoc];omega
theorem Jb (r d x:Nat) (hr:r<d) (hd:d<1048577) (hx:x<1048576):(r*1048576+x) / d<1048576∧r*1048576+x<1099511627776:=by
 refine⟨?_,by omega⟩;rw[Nat.div_lt_iff_lt_mul af];have:(r+1)*1048576≤d*1048576:=Nat.mul_le_mul_right _ hr;omega
theorem Ff (a q d r:Nat) (hr:r<d) (h:q*d+r=a):q=a / d∧r=a % d:=by
 subst h;rw[Nat.mul_comm];constructor
 (·rw[Nat.mul_add_div af,Nat.div_eq_of_lt hr];rfl);rw[Nat.mul_add_mod,Nat.mod_eq_of_lt hr]
theorem Jc (u:List Nat) (i g y b:Nat) (D:Nat) (hi:i<u.length) (hu:gj u) (hb:b<1048576) (hg:g<1048576) (hy:y<1048576) (E:Nat) (h:val u+E=D+b*1048576 ^ i) (n:Int) (hn:n=(u.getD i 0:Int) - b - (g*y:Nat)):0≤n % 1048576∧0≤-(n / 1048576)∧(-(n / 1048576)).toNat<1048576∧(n % 1048576).toNat<1048576∧val (u.set i (n % 1048576).toNat)+(E+g*(y*1048576 ^ i))=D+(-(n / 1048576)).toNat*1048576 ^ (i+1):=by
 have hx:=hu.get i;have hgy:g*y≤1048575*1048575:=Nat.mul_le_mul af af;generalize hG:g*y=G at hgy hn;refine⟨by omega,by omega,by omega,by omega,?_⟩;have hs:=tZ u i (n % 1048576).toNat hi;have e:(n % 1048576).toNat+b+G=u.getD i 0+(-(n / 1048576)).toNat*1048576:=af;have e2:((n % 1048576).toNat+b+G)*1048576 ^ i=(u.getD i 0+(-(n / 1048576)).toNat*1048576)*1048576 ^ i:=(by rw[e]);rw[Nat.add_mul,Nat.add_mul,Nat.add_mul,Nat.mul_assoc, ← pow_succ']at e2;have e3:g*(y*1048576 ^ i)=G*1048576 ^ i:=(by rw[← hG,Nat.mul_assoc]);rw[e3];omega
theorem Mp (u:List Nat) (i y c:Nat) (D:Nat) (hi:i<u.length) (hu:gj u) (hc:c≤1) (hy:y<1048576) (h:val u+c*1048576 ^ i=D) (n:Nat) (hn:n=c+u.getD i 0+y):n / 1048576≤1∧val (u.set i (n % 1048576))+(n / 1048576)*1048576 ^ (i+1)=D+y*1048576 ^ i:=by
 have hx:=hu.get i;refine⟨by omega,?_⟩;have hs:=tZ u i (n % 1048576) hi;have e:n % 1048576*1048576 ^ i+n / 1048576*1048576 ^ (i+1)=n*1048576 ^ i:=by
  rw[pow_succ', ← Nat.mul_assoc, ← Nat.add_mul];congr 1;omega
 have e2:n*1048576 ^ i=c*1048576 ^ i+u.getD i 0*1048576 ^ i+y*1048576 ^ i:=(by rw[hn,Nat.add_mul,Nat.add_mul]);omega
theorem Mq {u v:List Nat} {g U b:Nat} (hu:gj u) (h:val u+g*val v=U+b*1048576 ^ u.length) (hb:b=0):g*val v≤U∧val u=U - g*val v:=by
 subst hb;omega
theorem Jd {u u2:List Nat} {g U V b c:Nat} (hu:gj u) (hu2:gj u2) (hl:u2.length=u.length) (h:val u+g*V=U+b*1048576 ^ u.length) (hb:b≠0) (h2:val u2+c*1048576 ^ u.length=val u+V) (hU:U<1048576 ^ u.length) (hg:g=0∨(g - 1)*V≤U):U<g*V∧0<g∧val u2=U - (g - 1)*V:=by
 have h1:=jT hu;have h3:=jT hu2;rw[hl]at h3;have hb1:1048576 ^ u.length≤b*1048576 ^ u.length:=by
  have:=Nat.mul_le_mul_right (1048576 ^ u.length) (show 1≤b by omega);omega
 have hlt:U<g*V:=af;have hpos:0<g:=by
  rcases Nat.eq_zero_or_pos g with rfl|h
  (·simp at hlt);exact h
 refine⟨hlt,hpos,?_⟩;have hg':(g - 1)*V≤U:=(by rcases hg with h0|h0;omega;exact h0);have e:g*V=(g - 1)*V+V:=by
  (have:g=(g - 1)+1:=by omega);(conv=>lhs;rw[this,Nat.add_mul,Nat.one_mul])
 generalize (g - 1)*V=T at hg' e ⊢;have e3:val u2+c*1048576 ^ u.length+T=U+b*1048576 ^ u.length:=af;generalize 1048576 ^ u.length=Q at*;rcases Nat.lt_trichotomy b c with hbc|hbc|hbc
 (·have:=Nat.mul_le_mul_right Q (show b+1≤c from hbc);rw[Nat.add_mul]at this;omega)
 (·subst hbc;omega);have:=Nat.mul_le_mul_right Q (show c+1≤b from hbc);rw[Nat.add_mul]at this;omega
theorem Je (top v1 v0 vl t0 xl B W X V:Nat) (h1:0<v1) (hV:V=(v1*B+v0)*W+vl) (hX:X=(top*B+t0)*W+xl) (ht:t0*W+xl<B*W):X / V≤top / v1:=by
 rw[Nat.le_div_iff_mul_le h1];rcases Nat.lt_or_ge top (X / V*v1)with hlt|hge
 ·exfalso;have h2:=Nat.div_mul_le_self X V;generalize X / V=q at*;have h3:=Nat.mul_le_mul_right (B*W) (show top+1≤q*v1 from hlt);subst hV hX;have h4:q*v1*(B*W)≤q*((v1*B+v0)*W+vl):=by
   rw[Nat.mul_assoc];refine Nat.mul_le_mul_left q ?_;rw[Nat.add_mul, ← Nat.mul_assoc];omega
  have h6:=Nat.le_trans h4 h2;rw[Nat.add_mul,Nat.one_mul]at h3;rw[Nat.add_mul,Nat.mul_assoc top]at h6;generalize q*v1*(B*W)=z at*;generalize top*(B*W)=y at*;generalize B*W=x at*;omega
 exact hge
theorem Mr (g v1 v0 top rest t0 B W X vl xl V:Nat) (hV:V=(v1*B+v0)*W+vl) (hX:X=(top*B+t0)*W+xl) (h3:xl<W) (h:g*v1+rest=top) (h2:rest*B+t0<g*v0) (hp:0<V):X / V<g:=by
 have h5:top*B+t0+1≤g*(v1*B+v0):=by
  subst h;simp only[Nat.mul_add,Nat.mul_comm,Nat.mul_left_comm]at*;omega
 have h6:X<g*V:=by
  have:=Nat.mul_le_mul_right W h5;subst hV hX;simp only[Nat.mul_add,Nat.mul_comm,Nat.mul_left_comm,Nat.mul_one]at*;omega
 rw[Nat.div_lt_iff_lt_mul hp];exact h6
theorem Rp (g v1 v0 top rest t0 B W X vl xl V:Nat) (hV:V=(v1*B+v0)*W+vl) (hX:X=(top*B+t0)*W+xl) (hl:vl<W) (hv0:v0<B) (h1:0<v1) (h:g*v1+rest=top) (hg:g<B) (hx:B≤rest∨g*v0≤rest*B+t0):(g - 1)*V≤X:=by
 rcases Nat.eq_zero_or_pos g with rfl|hpos
 (·simp);rcases hx with hx|hx
 ·have h2:g*V≤X:=by
   have e1:g*V≤g*v1*(B*W)+g*(B*W):=by
    rw[Nat.mul_assoc, ← Nat.mul_add];refine Nat.mul_le_mul_left g ?_;subst hV;have:(v0+1)*W≤B*W:=Nat.mul_le_mul_right W hv0;rw[Nat.add_mul]at this;rw[Nat.add_mul,Nat.mul_assoc];omega
   have e2:g*v1*(B*W)+g*(B*W)≤top*(B*W):=by
    rw[← Nat.add_mul];exact Nat.mul_le_mul_right _ af
   have e3:top*(B*W)≤X:=by
    rw[hX,Nat.add_mul,Nat.mul_assoc];omega
   omega
  exact Nat.le_trans (Nat.mul_le_mul_right V af) h2
 have e1:g*(v1*B+v0)≤top*B+t0:=by
  subst h;simp only[Nat.mul_add,Nat.mul_comm,Nat.mul_left_comm]at*;omega
 have e2:=Nat.mul_le_mul_right W e1;have e3:g*vl≤V:=by
  have e4:g*vl≤B*W:=Nat.mul_le_mul af af;have e5:1*(B*W)≤v1*(B*W):=Nat.mul_le_mul_right _ h1;subst hV;rw[Nat.add_mul,Nat.mul_assoc];omega
 have e6:g*V=g*(v1*B+v0)*W+g*vl:=(by rw[hV,Nat.mul_add,Nat.mul_assoc]);have e7:(g - 1)*V+V=g*V:=by
  (conv=>rhs;rw[show g=(g - 1)+1 by omega,Nat.add_mul,Nat.one_mul])
 omega
theorem Rq (g X V:Nat) (hV:0<V) (hq:X / V≤g) (h:g=0∨(g - 1)*V≤X):(if g*V≤X then g else g - 1)=X / V:=by
 have h2:=Nat.div_mul_le_self X V;have h3:X<(X / V+1)*V:=by
  rw[Nat.add_mul,Nat.one_mul];have h4:=Nat.div_add_mod X V;have h5:=Nat.mod_lt X hV;rw[Nat.mul_comm]at h4;generalize X / V*V=y at*;generalize X % V=z at*;omega
 split
 ·next hle=>
  have:g<X / V+1:=Nat.lt_of_mul_lt_mul_right (Nat.lt_of_le_of_lt hle h3);omega
 next hle=>
 have hlt:X<g*V:=af;have h4:X / V<g:=(by rw[Nat.div_lt_iff_lt_mul hV];exact hlt);have h5:(g - 1)*V≤X:=by
  rcases h with h|h
  (·subst h;simp);exact h
 have:g - 1<X / V+1:=Nat.lt_of_mul_lt_mul_right (Nat.lt_of_le_of_lt h5 h3);omega
theorem top2 (v:List Nat) (n:Nat) (hn:v.length=n+2) (hd:gj v):val v=(v.getD (n+1) 0*1048576+v.getD n 0)*1048576 ^ n+val (v.take n)∧val (v.take n)<1048576 ^ n:=by
 have h1:=eG v n af;have h2:=eG v (n+1) af;rw[List.take_of_length_le af]at h2;have h3:=jT (hd.oT n);rw[List.length_take,Nat.min_eq_left af]at h3;refine⟨?_,h3⟩;rw[h2,h1,pow_succ',Nat.add_mul,Nat.mul_assoc];omega
theorem top3 (v:List Nat) (n:Nat) (hn:v.length=n+3) (hd:gj v):val v=((v.getD (n+2) 0*1048576+v.getD (n+1) 0)*1048576+v.getD n 0)*1048576 ^ n+val (v.take n)∧val (v.take n)<1048576 ^ n:=by
 have h1:=eG v n af;have h2:=eG v (n+1) af;have h4:=eG v (n+2) af;rw[List.take_of_length_le af]at h4;have h3:=jT (hd.oT n);rw[List.length_take,Nat.min_eq_left af]at h3;refine⟨?_,h3⟩;have p2:1048576 ^ (n+2)=1048576*(1048576*1048576 ^ n):=(by rw[pow_succ',pow_succ']);rw[h4,h2,h1,p2,pow_succ',Nat.add_mul,Nat.add_mul,Nat.add_mul];simp only[Nat.mul_assoc];omega
structure AL (u v:List Nat) (j n:Nat):Prop where
 hu:gj u
 hv:gj v
 hn:v.length=n+2
 hj:j+n+3≤u.length
 Us:0<v.getD (n+1) 0
 hlt:val (u.drop (j+1))<val v
section
variable {u v:List Nat} {j n:Nat}
theorem AL.pos (h:AL u v j n):0<val v:=by have:=h.hlt;omega
theorem AL.less (h:AL u v j n):val (u.drop j)<1048576*val v:=by
 have h1:=nX u j (by have:=h.hj;omega);have h2:=h.hu.get j;have h3:=h.hlt;omega
theorem AL.quot (h:AL u v j n):val (u.drop j) / val v<1048576:=by
 rw[Nat.div_lt_iff_lt_mul h.pos];exact h.less
theorem AL.high (h:AL u v j n):∀ d∈u.drop (j+n+3),d=0:=by
 have h1:=h.less;have h2:=jT h.hv;rw[h.hn]at h2;have hs:=lB (u.drop j) (n+3) (by have:=h.hj;simp;omega);rw[List.drop_drop,show j+(n+3)=j+n+3 by omega]at hs;have h3:1048576*val v<1048576 ^ (n+3):=(by rw[pow_succ' (n+2)];omega);have h4:val (u.drop (j+n+3))=0:=by
  rcases Nat.eq_zero_or_pos (val (u.drop (j+n+3)))with h|h
  (·exact h);have:=Nat.mul_le_mul_left (1048576 ^ (n+3)) h;omega
 exact th h4
theorem AL.val_ (h:AL u v j n):val ((u.drop j).take (n+3))=val (u.drop j):=by
 have hs:=lB (u.drop j) (n+3) (by have:=h.hj;simp;omega);rw[List.drop_drop,show j+(n+3)=j+n+3 by omega,td h.high]at hs;omega
theorem AL.form (h:AL u v j n):∃ xl vl,val v=(v.getD (n+1) 0*1048576+v.getD n 0)*1048576 ^ n+vl∧vl<1048576 ^ n∧val (u.drop j)=((u.getD (j+n+2) 0*1048576+u.getD (j+n+1) 0)*1048576+u.getD (j+n) 0)*1048576 ^ n+xl∧xl<1048576 ^ n:=by
 have h2:=top2 v n h.hn h.hv;(have hl:((u.drop j).take (n+3)).length=n+3:=by have:=h.hj;simp;omega);have h3:=top3 _ n hl ((h.hu.PL j).oT _);rw[h.val_]at h3;refine⟨_,_,h2.1,h2.2,?_,h3.2⟩;have g:∀ k,k<n+3→((u.drop j).take (n+3)).getD k 0=u.getD (j+k) 0:=by
  intro k hk;rw[List.getD_eq_getElem?_getD,List.getElem?_take_of_lt hk,List.getElem?_drop, ← List.getD_eq_getElem?_getD]
 rw[g _ af,g _ af,g _ af, ← Nat.add_assoc, ← Nat.add_assoc]at h3;exact h3.1
theorem AL.start (h:AL u v j n):val (u.drop j) / val v≤(u.getD (j+n+2) 0*1048576+u.getD (j+n+1) 0) / v.getD (n+1) 0:=by
 obtain⟨xl,vl,hV,hvl,hX,hxl⟩:=h.form;refine Je _ _ _ vl _ xl 1048576 (1048576 ^ n) _ _ h.Us hV hX ?_;have:=h.hu.get (j+n);have:=Nat.mul_le_mul_right (1048576 ^ n) (show u.getD (j+n) 0+1≤1048576 from this);rw[Nat.add_mul]at this;omega
theorem AL.more (h:AL u v j n) {g rest:Nat} (hg:g*v.getD (n+1) 0+rest=u.getD (j+n+2) 0*1048576+u.getD (j+n+1) 0) (hm:rest*1048576+u.getD (j+n) 0<g*v.getD n 0):val (u.drop j) / val v<g:=by
 obtain⟨xl,vl,hV,hvl,hX,hxl⟩:=h.form;exact Mr g _ _ _ rest _ 1048576 (1048576 ^ n) _ vl xl _ hV hX hxl hg hm h.pos
theorem AL.stop (h:AL u v j n) {g rest:Nat} (hg:g*v.getD (n+1) 0+rest=u.getD (j+n+2) 0*1048576+u.getD (j+n+1) 0) (hl:g<1048576) (hx:1048576≤rest∨g*v.getD n 0≤rest*1048576+u.getD (j+n) 0):(g - 1)*val v≤val (u.drop j):=by
 obtain⟨xl,vl,hV,hvl,hX,hxl⟩:=h.form;exact Rp g _ _ _ rest _ 1048576 (1048576 ^ n) _ vl xl _ hV hX hvl (h.hv.get n) h.Us hg hl hx
def swap (u:List Nat) (j k:Nat) (win:List Nat):List Nat:=u.take j++(win++u.drop (j+k))
theorem Ut {win:List Nat} {k:Nat} (hk:win.length=k) (hj:j+k≤u.length):(swap u j k win).length=u.length:=by
 unfold swap;simp[hk];omega
theorem Uu {win:List Nat} {k:Nat} (hu:gj u) (hw:gj win):gj (swap u j k win):=(hu.oT j).app (hw.app (hu.PL _))
theorem AL.next (h:AL u v j n) {win q:List Nat} (hw:win.length=n+3) (hval:val win=val (u.drop j) - val (u.drop j) / val v*val v) (hq:j<q.length):val ((swap u j (n+3) win).drop j)<val v∧val (swap u j (n+3) win)+val v*(1048576 ^ j*val ((q.set j (val (u.drop j) / val v)).drop j))=val u+val v*(1048576 ^ (j+1)*val (q.drop (j+1))):=by
 have hj:=h.hj;have hlj:(u.take j).length=j:=aq;have hz:val (u.drop (j+(n+3)))=0:=td h.high;have e1:(swap u j (n+3) win).drop j=win++u.drop (j+(n+3)):=by
  unfold swap;rw[List.drop_append_of_le_length af,List.drop_of_length_le af,List.nil_append]
 have e2:val ((swap u j (n+3) win).drop j)=val win:=(by rw[e1,nQ,hz];simp);have hdm:=Nat.div_add_mod (val (u.drop j)) (val v);have hml:=Nat.mod_lt (val (u.drop j)) h.pos;rw[Nat.mul_comm]at hdm;have hs:=lB u j af;have e3:val (swap u j (n+3) win)=val (u.take j)+1048576 ^ j*val win:=by
  unfold swap;rw[nQ,hlj,nQ,hz];simp
 have e4:val ((q.set j (val (u.drop j) / val v)).drop j)=val (u.drop j) / val v+1048576*val (q.drop (j+1)):=by
  rw[nX _ j (by simpa using hq)];congr 1
  (·rw[kU (by simpa using hq)];simp);rw[List.drop_set_of_lt af]
 generalize val (u.drop j) / val v=Q at*;generalize val (u.drop j) % val v=R at*;have e5:val win=R:=af;refine⟨by rw[e2];omega,?_⟩;rw[e3,e4,hs, ← hdm,e5,pow_succ'];generalize 1048576 ^ j=T;generalize val (q.drop (j+1))=Z;generalize val v=V;simp only[Nat.mul_add,Nat.mul_comm,Nat.mul_left_comm];omega
end
theorem Zd (a b s u q:Nat) (hs:0<s) (h:u+b*s*q=a*s) (hu:u<b*s):q=a / b∧u / s=a % b:=by
 have hb:0<b:=by
  rcases Nat.eq_zero_or_pos b with rfl|h
  (·simp at hu);exact h
 have h1:q=a*s / (b*s)∧u=a*s % (b*s):=Ff (a*s) q (b*s) u hu (by rw[Nat.mul_comm q];omega);rw[Nat.mul_div_mul_right _ _ hs]at h1;rw[Nat.mul_mod_mul_right]at h1;exact⟨h1.1,by rw[h1.2,Nat.mul_div_cancel _ hs]⟩
theorem Uv (x y:Nat):Nat.gcd y (x % y)=Nat.gcd x y:=by
 rw[Nat.gcd_comm x y,Nat.gcd_rec y x,Nat.gcd_comm]
end
section
structure iC where
 sign:Int
 dg:List Int
structure eD where
 p:iC
 q:iC
structure Uw where
 lo:eD
 hi:eD
structure Ux where
 key:ByteArray
 note:Int
 value:Uw
def jy (l:List Int):List Nat:=l.map Int.toNat
def Ey (l:List Int):Bool:=l.all fun d=>decide (0≤d)&&decide (d≤1048575)
def dx (b:iC):Bool:=Ey b.dg&&((b.dg.isEmpty&&b.sign==0)||(!b.dg.isEmpty&&(b.sign==1||b.sign==-1)&&b.dg.getLastD 0 != 0))
def dJ (b:iC):Nat:=val (jy b.dg)
def qi (s:Int) (n:Nat):iC:=⟨if n=0 then 0 else s,(gm n).map Int.ofNat⟩
def zD:iC:=⟨0,[]⟩
def uR:eD:=⟨zD,zD⟩
def gH:Uw:=⟨uR,uR⟩
theorem Uy (l:List Nat):jy (l.map Int.ofNat)=l:=by
 unfold jy;rw[List.map_map];(conv=>rhs;rw[← List.map_id l]);congr 1
theorem qR (l:List Int):Ey l=true↔∀ d∈l,0≤d∧d≤1048575:=by simp[Ey]
theorem Fg {l:List Int} (h:Ey l=true):(jy l).map Int.ofNat=l:=by
 rw[qR]at h;unfold jy;rw[List.map_map];(conv=>rhs;rw[← List.map_id l]);refine List.map_congr_left fun d hd=>?_;have:=h d hd;simp;omega
theorem Uz {l:List Int} (h:Ey l=true):gj (jy l):=by
 rw[qR]at h;intro d hd;unfold jy at hd;obtain⟨x,hx,rfl⟩:=List.mem_map.1 hd;have:=h x hx;omega
theorem vn {b:iC} (h:dx b=true):Ey b.dg=true:=by simp[dx]at h;exact h.1
theorem ql {b:iC} (h:dx b=true):b.sign=-1∨b.sign=0∨b.sign=1:=by
 unfold dx at h;by_cases e:b.dg.isEmpty=true
 (·simp[e]at h;omega);simp[e]at h;omega
theorem wu {b:iC} (h:dx b=true):Canon (jy b.dg):=by
 have hd:=vn h;refine⟨Uz hd,fun hne=>?_⟩;have Rs:b.dg≠[]:=fun e=>hne bf;unfold dx at h;have he:b.dg.isEmpty=false:=(by simpa using Rs);rw[he]at h;simp only[Bool.and_eq_true,Bool.false_and,Bool.false_or,Bool.not_false,Bool.true_and,bne_iff_ne]at h;have hl:=h.2.2;rw[List.getLastD_eq_getLast?,List.getLast?_eq_some_getLast Rs]at hl;simp only[Option.getD_some]at hl;have e1:(jy b.dg).getLast hne=(b.dg.getLast Rs).toNat:=List.getLast_map ..;rw[e1];have:=(qR _).1 hd _ (List.getLast_mem Rs);omega
theorem lC {b:iC} (h:dx b=true):dJ b=0↔b.sign=0:=by
 have hc:=kN (wu h);have hb:=Fg (vn h);unfold dx at h;by_cases e:b.dg.isEmpty=true
 (·have e':b.dg=[]:=(by simpa using e);simp[e']at h;simp[dJ,e',jy,val,h]);have e':b.dg≠[]:=(by simpa using e);simp[e']at h;constructor
 (·intro h0;unfold dJ at h0;rw[h0,gp]at hc;rw[hc]at hb;exact absurd hb.symm (by simpa using e'));intro h0;omega
theorem wC (s:Int) (n:Nat):dJ (qi s n)=n:=by simp[dJ,qi,Uy,jP]
theorem mV {s:Int} {n:Nat} (h:s=1∨s=-1):dx (qi s n)=true:=by
 have hd:Ey ((gm n).map Int.ofNat)=true:=by
  rw[qR];intro d hd;obtain⟨x,hx,rfl⟩:=List.mem_map.1 hd;have:=nR n x hx;simp;omega
 unfold dx;simp only[qi,hd,Bool.true_and];by_cases e:n=0
 (·subst e;simp[gp]);have hne:gm n≠[]:=fun k=>e ((nY n).1 k);have hm:(gm n).map Int.ofNat≠[]:=(by simpa using hne);have hl:=(qQ n).2 hne;have he:((gm n).map Int.ofNat).isEmpty=false:=(by simpa using hne);simp only[he,Bool.false_and,Bool.false_or,Bool.not_false,Bool.true_and,if_neg e,Bool.and_eq_true,bne_iff_ne];refine⟨by rcases h with h|h<;>simp[h],?_⟩;rw[List.getLastD_eq_getLast?,List.getLast?_eq_some_getLast hm,List.getLast_map];simp;exact hl
theorem Jf (s:Int):qi s 0=zD:=by simp[qi,zD,gp]
theorem zF {s:Int} {n:Nat} (h:s=1∨s=-1∨n=0):dx (qi s n)=true:=by
 rcases h with h|h|h
 (·exact mV (.inl h))
 (·exact mV (.inr h));subst h;rw[Jf];rfl
def sS (a b:iC):iC:=if dx a&&dx b then qi (a.sign*b.sign) (dJ a*dJ b)else zD
def sgn (x y:Int):Int:=if x<y then -1 else if x=y then 0 else 1
def cmpB (a b:iC):Int:=if dx a&&dx b then(if a.sign=b.sign then a.sign*wm (dJ a) (dJ b)else sgn a.sign b.sign)else 0
def dF (f:eD):Bool:=dx f.p&&dx f.q&&f.q.sign==1&&Nat.gcd (dJ f.p) (dJ f.q)==1
def cmpF (a b:eD):Int:=if dF a&&dF b then cmpB (sS a.p b.q) (sS b.p a.q)else 0
def cN (s:Uw):Bool:=dF s.lo&&dF s.hi&&decide (cmpF s.lo s.hi≤0)
theorem fB {f:eD} (h:dF f=true):dx f.p=true∧dx f.q=true∧f.q.sign=1∧Nat.gcd (dJ f.p) (dJ f.q)=1:=by
 simp[dF]at h;exact⟨h.1.1.1,h.1.1.2,h.1.2,h.2⟩
theorem sign_mul {s t:Int} {x y:Nat} (hs:s=-1∨s=0∨s=1) (ht:t=-1∨t=0∨t=1) (hx:x=0↔s=0) (hy:y=0↔t=0):s*t=1∨s*t=-1∨x*y=0:=by
 rcases hs with h|h|h
 ·rcases ht with k|k|k
  (·simp[h,k])
  (·right;right;rw[hy.2 k,Nat.mul_zero]);simp[h,k]
 (·right;right;rw[hx.2 h,Nat.zero_mul]);rcases ht with k|k|k
 (·simp[h,k])
 (·right;right;rw[hy.2 k,Nat.mul_zero]);simp[h,k]
theorem gf {a b:iC} (ha:dx a=true) (hb:dx b=true):dx (sS a b)=true:=by
 have hs:=ql ha;have hs2:=ql hb;have hz:=lC ha;have hz2:=lC hb;unfold sS;simp only[ha,hb,Bool.and_self,if_true];exact zF (sign_mul hs hs2 hz hz2)
section
variable (odd:ByteArray→Bool)
def rN (pre:List Ux) (key:ByteArray):Option Ux:=pre.reverse.find? fun y=>decide (y.key=key)
end
end
end Bg
namespace Go.Proofs.YtkfofnjfihfgkaaGreatDoor
open Go Go.RowKit Bg
section
def je (w:World) (A:Option Addr) (xs:List Value):Prop:=
 xs≠[]→∃ b off,A=some ⟨b,off,none⟩∧b<w.heap.size∧∀ j v,xs[j]? =some v→w.cell? ⟨b,off+j,none⟩=some v
def nv (d:Nat):Value:= .int .i64 (d:Int)
def iv (d:Int):Value:= .int .i64 d
section
variable {w w':World} {A:Option Addr} {xs:List Value}
theorem je.nil:je w A []:=fun h=>absurd rfl h
theorem je.bU (h:je w A xs) (hb:Below w.heap.size w w'):je w' A xs:=fun hn=>by
 obtain⟨b,off,e,hlt,hc⟩:=h hn;exact⟨b,off,e,Nat.lt_of_lt_of_le hlt hb.size,fun j v hv=>(hb.cell (p:=⟨b,off+j,none⟩) hlt).trans (hc j v hv)⟩
theorem je.drew (h:je w A xs):je w.drew A xs:=h
theorem je.drewN (h:je w A xs) (n:Nat):je (w.drewN n) A xs:=h
theorem je.alloc (h:je w A xs) (o:Obj):je (w.alloc o) A xs:=h.bU ((Below.refl _ _).alloc (Nat.le_refl _) _)
theorem je.oT (h:je w A xs) (n:Nat):je w A (xs.take n):=fun hn=>by
 obtain⟨b,off,e,hlt,hc⟩:=h (fun e=>hn (by rw[e];simp));refine⟨b,off,e,hlt,fun j v hv=>hc j v ?_⟩;rw[List.getElem?_take]at hv;split at hv
 (·exact hv);cases hv
theorem je.get (h:je w A xs) {k:Nat} (hk:k<xs.length):∃ b off,A=some ⟨b,off,none⟩∧b<w.heap.size∧w.cell? ⟨b,off+k,none⟩=some xs[k]:=by
 obtain⟨b,off,e,hlt,hc⟩:=h (fun e=>by subst e;simp at hk);exact⟨b,off,e,hlt,hc k _ (List.getElem?_eq_getElem hk)⟩
end
theorem je.nat {w:World} {A:Option Addr} {xs:List Nat} (h:je w A (xs.map nv)) {k:Nat} (hk:k<xs.length):∃ b off,A=some ⟨b,off,none⟩∧b<w.heap.size∧w.cell? ⟨b,off+k,none⟩=some (.int .i64 ((xs.getD k 0:Nat):Int)):=by
 obtain⟨b,off,e,hlt,hc⟩:=h.get (k:=k) (by simpa using hk);refine⟨b,off,e,hlt,hc.trans ?_⟩;simp[nv,hk]
theorem je.int {w:World} {A:Option Addr} {xs:List Int} (h:je w A (xs.map iv)) {k:Nat} (hk:k<xs.length):∃ b off,A=some ⟨b,off,none⟩∧b<w.heap.size∧w.cell? ⟨b,off+k,none⟩=some (.int .i64 (xs.getD k 0)):=by
 obtain⟨b,off,e,hlt,hc⟩:=h.get (k:=k) (by simpa using hk);refine⟨b,off,e,hlt,hc.trans ?_⟩;simp[iv,hk]
theorem je.dg {w:World} {A:Option Addr} {xs:List Nat} (h:je w A (xs.map nv)) (hd:gj xs) {k:Nat} (hk:k<xs.length):∃ (b off d:Nat),A=some ⟨b,off,none⟩∧b<w.heap.size∧w.cell? ⟨b,off+k,none⟩=some (.int .i64 (d:Int))∧d<1048576∧Hid (xs.getD k 0=d):=by
 obtain⟨b,off,e,hlt,hc⟩:=h.nat hk;exact⟨b,off,_,e,hlt,hc,hd.get k,rfl⟩
def cH (w:World) (g:Nat) (t:TypeId) (cs:List Value):Prop:=w.heap[g]? =some (.cells cs.toArray t (0,0))
section
variable {w w':World} {g:Nat} {t:TypeId} {cs:List Value}
theorem cH.lt (h:cH w g t cs):g<w.heap.size:=by
 rcases Nat.lt_or_ge g w.heap.size with hlt|hge
 (·exact hlt);unfold cH at h;rw[Array.getElem?_eq_none hge]at h;cases h
theorem cH.cell (h:cH w g t cs) (i:Nat):w.cell? ⟨g,i,none⟩=cs[i]? :=by
 rw[cell_of_row w g i cs.toArray t (0,0) h];simp
theorem cH.frozen (h:cH w g t cs) (i:Nat):w.frozen? ⟨g,i,none⟩=false:=by
 unfold cH at h;simp[World.frozen?,h]
theorem cH.drew (h:cH w g t cs):cH w.drew g t cs:=h
theorem cH.drewN (h:cH w g t cs) (n:Nat):cH (w.drewN n) g t cs:=h
theorem cH.alloc (h:cH w g t cs) (o:Obj):cH (w.alloc o) g t cs:=(Below.heap_alloc w o g h.lt).trans h
theorem cH.cM (h:cH w g t cs) (i:Nat) (u:Value):cH (w.setCell ⟨g,i,none⟩ u) g t (cs.set i u):=by
 unfold cH at h ⊢;simp[World.setCell,Array.getElem?_modify,h]
theorem cH.bU {B:Nat} (h:cH w g t cs) (hb:Below B w w') (hg:g<B):cH w' g t cs:=(hb.block g hg).trans h
theorem cH.arr (h:cH w g t cs):je w (some ⟨g,0,none⟩) cs:=fun _=>⟨g,0,rfl,h.lt,fun j v hv=>by rw[Nat.zero_add,h.cell];exact hv⟩
theorem cH.nat {xs:List Nat} (h:cH w g t (xs.map nv)) {k:Nat} (hk:k<xs.length):w.cell? ⟨g,k,none⟩=some (.int .i64 ((xs.getD k 0:Nat):Int)):=by
 rw[h.cell];simp[nv,hk]
theorem cH.dg {xs:List Nat} (h:cH w g t (xs.map nv)) (hd:gj xs) {k:Nat} (hk:k<xs.length):∃ d:Nat,w.cell? ⟨g,k,none⟩=some (.int .i64 (d:Int))∧d<1048576∧Hid (xs.getD k 0=d):=
 ⟨_,h.nat hk,hd.get k,rfl⟩
theorem cH.Ze {xs:List Nat} (h:cH w g t (xs.map nv)) (k d:Nat):cH (w.setCell ⟨g,k,none⟩ (.int .i64 (d:Int))) g t ((xs.set k d).map nv):=by
 have:=h.cM k (nv d);rw[List.map_set];exact this
end
def Mt (w:World) (g:Nat) (pre:List Value) (u:List Nat) (post:List Value):Prop:=cH w g 3 (pre++(u.map nv++post))
section
variable {w w':World} {g:Nat} {pre post:List Value} {u:List Nat}
theorem Mt.dg (h:Mt w g pre u post) (hd:gj u) {i:Nat} (hi:i<u.length):∃ d:Nat,w.cell? ⟨g,pre.length+i,none⟩=some (.int .i64 (d:Int))∧d<1048576∧Hid (u.getD i 0=d):=by
 refine⟨u.getD i 0,?_,hd.get i,rfl⟩;rw[cH.cell h,List.getElem?_append_right af,Nat.add_sub_cancel_left,List.getElem?_append_left aad];simp[nv,hi]
theorem Mt.frozen (h:Mt w g pre u post) (i:Nat):w.frozen? ⟨g,i,none⟩=false:=cH.frozen h i
theorem Mt.lt (h:Mt w g pre u post):g<w.heap.size:=cH.lt h
theorem Mt.cM (h:Mt w g pre u post) {i:Nat} (hi:i<u.length) (d:Nat):Mt (w.setCell ⟨g,pre.length+i,none⟩ (.int .i64 (d:Int))) g pre (u.set i d) post:=by
 have:=cH.cM h (pre.length+i) (nv d);rw[List.set_append_right _ _ af,Nat.add_sub_cancel_left,List.set_append_left _ _ aad, ← List.map_set]at this;exact this
end
theorem fh {a w:World} {g:Nat} (h:a.grownBy w (some g)) (i:Nat) (u:Value):a.grownBy (w.setCell ⟨g,i,none⟩ u) (some g):=
 ⟨h.os,h.tape,h.output,by simpa [World.setCell]using h.size,fun k hk hne=>(Below.heap_setCell w ⟨g,i,none⟩ u k (by
  rintro rfl;exact hne rfl)).trans (h.block k hk hne)⟩
theorem je.grown {w w':World} {A:Option Addr} {xs:List Value} {row:Option Nat} (h:je w A xs) (hg:w.grownBy w' row) (hne:∀ b o,A=some ⟨b,o,none⟩→some b≠row):je w' A xs:=fun hn=>by
 obtain⟨b,off,e,hlt,hc⟩:=h hn;exact⟨b,off,e,Nat.lt_of_lt_of_le hlt hg.size,fun j v hv=>(World.cell?_of_block (hg.block b hlt (hne b off e))).trans (hc j v hv)⟩
def tj (w:World) (g cc n:Nat):Prop:=∃ k,cc=(gm n).length+k∧cH w g 3 ((gm n++List.replicate k 0).map nv)
theorem tj.le {w:World} {g cc n:Nat} (h:tj w g cc n):(gm n).length≤cc:=by obtain⟨k,h,_⟩:=h;omega
theorem tj.arr {w:World} {g cc n:Nat} (h:tj w g cc n):je w (some ⟨g,0,none⟩) ((gm n).map nv):=by
 obtain⟨k,h,hb⟩:=h;have:=hb.arr.oT (gm n).length;rw[← List.map_take,List.take_left' rfl]at this;exact this
theorem tj.of {w:World} {g:Nat} {out:List Nat} (hd:gj out) (h:cH w g 3 (out.map nv)):tj w g out.length (val out):=by
 obtain⟨k,hk⟩:=ua hd;refine⟨k,?_,by rw[← hk];exact h⟩;have:=congrArg List.length hk;simpa using this
theorem tj.bU {w w':World} {B g cc n:Nat} (h:tj w g cc n) (hb:Below B w w') (hg:g<B):tj w' g cc n:=by
 obtain⟨k,h,hk⟩:=h;exact⟨k,h,hk.bU hb hg⟩
theorem tj.lt {w:World} {g cc n:Nat} (h:tj w g cc n):g<w.heap.size:=by
 obtain⟨k,h,hk⟩:=h;exact hk.lt
theorem BS {P:Program} {f:FuncId} {args:Array Value} {w:World} {a n:Nat} {v:Value}
 (h:Calls P f args (w.drewN (a+n)) fun e w'=>e= .returned v∧w.drewN (a+n)=w'):
 Calls P f args (w.drewN (a+n)) fun e w''=>e= .returned v∧∃ m,w''=w.drewN (a+m):=
 h.mono fun _ _ ⟨he,hm⟩=>⟨he,n,hm.symm⟩
theorem mW {B:Nat} {w w':World} {n:Nat} (h:Below B (w.drewN n) w'):Below B w w':=⟨h.os,h.tape,h.output,h.size,h.block⟩
theorem below_drewN {B:Nat} {a w:World} (h:Below B a w) (n:Nat):Below B a (w.drewN n):=⟨h.os,h.tape,h.output,h.size,h.block⟩
theorem Fh {A:Option Addr} {n m c:Nat} (h:n=m):Ending.returned (.slice A n c)= .returned (.slice A m c):=by rw[h]
theorem Bo {k:IntKind} {a b:Int} (h:a=b):Ending.returned (.int k a)= .returned (.int k b):=by rw[h]
theorem Zf {a b c d:Value} (h:a=c) (k:b=d):Ending.returned (.tuple #[a,b])= .returned (.tuple #[c,d]):=by rw[h,k]
theorem int_eq {k:IntKind} {a b:Int} (h:a=b):Value.int k a= .int k b:=by rw[h]
theorem cK {a b:Bool} (h:a=b):Ending.returned (.bool a)= .returned (.bool b):=by rw[h]
theorem toNat_ofInt (n:Int):(BitVec.ofInt 64 n).toNat=(n % 18446744073709551616).toNat:=by
 rw[BitVec.toNat_ofInt];rfl
theorem fC {n:Int} (h:-9223372036854775808≤n∧n≤9223372036854775807):IntKind.i64.wrap n=n:=by
 rw[IntKind.wrap_i64];omega
theorem Jg (n:Int):bits .and .i64 n 1048575=n % 1048576:=by
 show IntKind.i64.wrap ((BitVec.ofInt 64 n&&& BitVec.ofInt 64 1048575).toNat:Int)=_;have e:(BitVec.ofInt 64 1048575).toNat=2 ^ 20 - 1:=ag;rw[BitVec.toNat_and,e,Nat.and_two_pow_sub_one_eq_mod,toNat_ofInt];rw[fC af];omega
theorem Jh (r x:Nat) (hr:r<8796093022208) (hx:x<1048576):bits .or .i64 ((r:Int)*1048576) (x:Int)=(r:Int)*1048576+(x:Int):=by
 show IntKind.i64.wrap ((BitVec.ofInt 64 ((r:Int)*1048576)|||BitVec.ofInt 64 (x:Int)).toNat:Int)=_;rw[BitVec.toNat_or,toNat_ofInt,toNat_ofInt];have e1:((r:Int)*1048576 % 18446744073709551616).toNat=r<<<20:=(by rw[Nat.shiftLeft_eq];omega);have e2:((x:Int) % 18446744073709551616).toNat=x:=af;rw[e1,e2, ← Nat.shiftLeft_add_eq_or_of_lt af,Nat.shiftLeft_eq,fC af];omega
theorem Mu (t2 t1 top:Nat) (h:top=t2*1048576+t1) (h2:t2<1048576) (IE:t1<1048576):bits .or .i64 ((t2:Int)*1048576) (t1:Int)=(top:Int):=by
 rw[Jh t2 t1 af IE];omega
theorem yj (z:Value) (n:Nat):madeCells #[z] n=(List.replicate n z).toArray:=by
 unfold madeCells;apply Array.ext
 (·simp);intro i h1 h2;simp[Nat.mod_one]
theorem cast3 (o d y c:Nat):(o:Int)+(d:Int)*(y:Int)+(c:Int)=((o+d*y+c:Nat):Int):=by simp
theorem vdiv (o d y c:Nat):((o:Int)+(d:Int)*(y:Int)+(c:Int)) / 1048576=(((o+d*y+c) / 1048576:Nat):Int):=by rw[cast3];omega
theorem vmod (o d y c:Nat):((o:Int)+(d:Int)*(y:Int)+(c:Int)) % 1048576=(((o+d*y+c) % 1048576:Nat):Int):=by rw[cast3];omega
theorem sdiv (r x d:Nat):((r:Int)*1048576+(x:Int)) / (d:Int)=(((r*1048576+x) / d:Nat):Int):=by rw[Int.natCast_ediv];congr 1
theorem smod (r x d:Nat):((r:Int)*1048576+(x:Int)) % (d:Int)=(((r*1048576+x) % d:Nat):Int):=by rw[Int.natCast_emod];congr 1
end
end Go.Proofs.YtkfofnjfihfgkaaGreatDoor
namespace Go.Proofs.YtkfofnjfihfgkaaGreatDoor
open Go Go.RowKit Go.Maps
section
def Ji (v:Value):Option (DataW Value×List MemPlace):=some (.held v,[])
def AO (k:ByteArray):Lit:= .string k.data.toList
theorem Gq {k k':ByteArray} (h:k'≠k):AO k'≠AO k:=fun e=>h (by
 unfold AO at e;injection e with e;exact ByteArray.ext (Array.toList_inj.1 e))
theorem isKey (k:ByteArray):WideAt.IsKeyLit (AO k):=by unfold AO;simp[WideAt.IsKeyLit]
def kE (w:World) (g n:Nat) (f:ByteArray→Option Value):Prop:=
 ∃ D:DataW Value,w.ownsMap prog 9 Ji g n D∧IsMap D∧∀ k:ByteArray,Maps.has D (AO k)=(f k).isSome∧(∀ v z,f k=some v→D.atKey (AO k) z= .held v)∧(∀ z,f k=none→D.atKey (AO k) z=z)
theorem BU:Keyed prog 9:=string_keyed Tryz.underlying9
section
variable {w w':World} {g n:Nat} {f:ByteArray→Option Value}
theorem kE.made (w:World):kE (w.alloc (.map #[] 0)) w.heap.size 0 (fun _=>none):=
 ⟨.map [],World.ownsMap_made w _ _ _,⟨[],rfl⟩,fun k=>⟨rfl,fun v z h=>bA,fun z _=>rfl⟩⟩
theorem kE.lt (h:kE w g n f):g<w.heap.size:=by
 obtain⟨D,h1,_⟩:=h;exact h1.lt
theorem kE.bU {B:Nat} (h:kE w g n f) (hb:Below B w w') (hg:g<B):kE w' g n f:=by
 obtain⟨D,⟨es,clock,hbk,F,hs,hD⟩,h2,h3⟩:=h;exact⟨D,⟨es,clock,(hb.block g hg).trans hbk,F,hs,hD⟩,h2,h3⟩
theorem kE.alloc (h:kE w g n f) (o:Obj):kE (w.alloc o) g n f:=h.bU ((Below.refl _ _).alloc (Nat.le_refl _) _) h.lt
theorem kE.drewN (h:kE w g n f) (k:Nat):kE (w.drewN k) g n f:=h
theorem kE.drew (h:kE w g n f):kE w.drew g n f:=h
theorem kE.b_ {p:Addr} (h:kE w g n f) (hp:g≠p.block) (u:Value):kE (w.setCell p u) g n f:=by
 obtain⟨D,⟨es,clock,hbk,F,hs,hD⟩,h2,h3⟩:=h;exact⟨D,⟨es,clock,(Below.heap_setCell w p u g hp).trans hbk,F,hs,hD⟩,h2,h3⟩
theorem kE.mono {m:Nat} (h:kE w g n f) (hm:n≤m):kE w g m f:=by
 obtain⟨D,h1,h2⟩:=h;exact⟨D,h1.mono hm,h2⟩
end
end
end Go.Proofs.YtkfofnjfihfgkaaGreatDoor
namespace Kb
abbrev Bytes:=List UInt8
def cQ (c:UInt8):Bool:=(97≤c&&c≤122)||(65≤c&&c≤90)
def BV (c:UInt8):Bool:=48≤c&&c≤57
def mo (c:UInt8):Bool:=cQ c||BV c||c==95
def mq (s:Bytes):Bool:=match s with
 |[]=>false
 |c :: r=>cQ c&&decide (r.length+1≤20)&&(c :: r).all mo
def pieces:Bytes→List Bytes
 |[]=>[[]]
 |c :: r=>if c=47 then[] :: pieces r else match pieces r with
  |[]=>[[c]]
  |h :: t=>(c :: h) :: t
def Zg (s:Bytes):Bool:=decide ((pieces s).length≤4)&&(pieces s).all mq
structure PN where
 kind:Int
 person:Int
 day:Int
 obj:ByteArray
theorem PN.ext' {a b:PN} (h1:a.kind=b.kind) (h2:a.person=b.person) (h3:a.day=b.day) (h4:a.obj=b.obj):a=b:=by
 cases a;cases b;simp_all
instance:DecidableEq PN:=fun a b=>
 if h:a.kind=b.kind∧a.person=b.person∧a.day=b.day∧a.obj=b.obj then isTrue (PN.ext' h.1 h.2.1 h.2.2.1 h.2.2.2)
 else isFalse fun e=>h (by subst e;exact⟨rfl,rfl,rfl,rfl⟩)
def PN.o (a:PN):Bytes:=a.obj.data.toList
def dx (a:PN):Bool:=decide (0≤a.kind)&&decide (a.kind<3)&&decide (0≤a.person)&&decide (a.person<1000)&&decide (0≤a.day)&&decide (a.day≤100000)&&Zg a.o
def uf (x y:List PN):Prop:=∀ a,dx a=true→(a∈x↔a∈y)
theorem uf.symm {x y:List PN} (h:uf x y):uf y x:=fun a ha=>(h a ha).symm
def UA (a b:PN):Prop:=a.day<b.day∨a.day=b.day∧(a.kind<b.kind∨a.kind=b.kind∧(a.person<b.person∨a.person=b.person∧a.o<b.o))
instance (a b:PN):Decidable (UA a b):=by unfold UA;infer_instance
def BW (a b j:List PN):Prop:=j.Pairwise UA∧∀ x,x∈j↔dx x=true∧(x∈a∨x∈b)
theorem BW.nil {a b ab:List PN} (h:BW a b ab):BW ab [] ab:=
 ⟨h.1,fun x=>by
  rw[h.2 x];constructor
  (·rintro⟨r,m⟩;exact⟨r,.inl ⟨r,m⟩⟩);rintro⟨r,(⟨_,m⟩|m)⟩
  (·exact⟨r,m⟩);cases m⟩
theorem BW.same {a own:List PN} (h:BW a [] own):uf own a:=fun x hx=>by
 rw[h.2 x];constructor
 ·rintro⟨_,m|m⟩
  (·exact m);cases m
 intro m;exact⟨hx,.inl m⟩
end Kb
namespace Go.Proofs.YtkfofnjfihfgkaaGreatDoor
open Go Go.RowKit Kb
theorem BX (c:UInt8) (w:World):Calls prog 149 #[.int .u8 (c.toNat:Int)] w fun e w'=>e= .returned (.bool (cQ c))∧w=w':=by
 (have hb:(c.toNat:Int)<256:=by have:=c.toNat_lt;omega);have e1:cQ c=((decide (97≤(c.toNat:Int))&&decide ((c.toNat:Int)≤122))||(decide (65≤(c.toNat:Int))&&decide ((c.toNat:Int)≤90))):=by
  unfold cQ;rw[Bool.eq_iff_iff];simp[UInt8.le_iff_toNat_le];omega
 rw[e1];clear e1;generalize (c.toNat:Int)=x at hb ⊢;(by_cases h1:97≤x<;>by_cases h2:x≤122<;>by_cases h3:65≤x<;>by_cases h4:x≤90<;>first|omega|(go_enter func149,ntmps149;go_wp2;go_ret;exact⟨by simp[h1,h2,h3,h4],rfl⟩))
theorem Rt (c:UInt8) (w:World):Calls prog 193 #[.int .u8 (c.toNat:Int)] w fun e w'=>e= .returned (.bool (BV c))∧w=w':=by
 (have hb:(c.toNat:Int)<256:=by have:=c.toNat_lt;omega);have e1:BV c=(decide (48≤(c.toNat:Int))&&decide ((c.toNat:Int)≤57)):=by
  unfold BV;rw[Bool.eq_iff_iff];simp[UInt8.le_iff_toNat_le];omega
 rw[e1];clear e1;generalize (c.toNat:Int)=x at hb ⊢;(by_cases h1:48≤x<;>by_cases h2:x≤57<;>first|omega|(go_enter func193,ntmps193;go_wp2;go_ret;exact⟨by simp[h1,h2],rfl⟩))
theorem Ru (c:UInt8) (w:World):Calls prog 151 #[.int .u8 (c.toNat:Int)] w fun e w'=>e= .returned (.bool (mo c))∧w=w':=by
 have hl:=fun w=>BX c w;have hd:=fun w=>Rt c w;have e1:(c==95)=(((c.toNat:Int))==95):=by
  rw[Bool.eq_iff_iff];simp[← UInt8.toNat_inj];omega
 unfold mo;rw[e1];clear e1;generalize cQ c=bl at hl ⊢;generalize BV c=bd at hd ⊢;generalize (c.toNat:Int)=x at hl hd ⊢;have Hl:=aa hl;have Hd:=aa hd;clear hl hd;cases bl<;>cases bd<;>cases h3:(x==95)<;>
  (go_enter func151,ntmps151
   go_wp2_with (first|(go_at_call 149;refine(Hl.o _).mono ?_;rintro e w' ⟨rfl,rfl⟩)|(go_at_call 193;refine(Hd.o _).mono ?_;rintro e w' ⟨rfl,rfl⟩))
   go_ret
   exact⟨by simp,rfl⟩)
theorem eA (s:ByteArray):s.data.toList.length=s.size:=by rw[Array.length_toList];rfl
def jD (p:UInt8→Bool):List UInt8→Nat
 |[]=>0
 |c :: r=>if p c then jD p r+1 else 0
theorem tq (p:UInt8→Bool):∀ l,jD p l≤l.length
 |[]=>Nat.le_refl _
 |c :: r=>by
  have:=tq p r;unfold jD;split<;>simp<;>omega
theorem yl (p:UInt8→Bool):∀ l,(jD p l=l.length)↔l.all p=true
 |[]=>by simp[jD]
 |c :: r=>by
  have:=yl p r;have h2:=tq p r;unfold jD;by_cases h:p c=true
  (·simp[h]at*;exact this);simp[h]
theorem kW (p:UInt8→Bool):∀ (l:List UInt8) (k:Nat),(∀ i,i<k→∀ c,l[i]? =some c→p c=true)→k≤l.length→(∀ c,l[k]? =some c→p c=false)→jD p l=k
 |[],k,_,h2,_=>by simp at h2;simp[jD,h2]
 |c :: r,0,_,_,h3=>by have:=h3 c rfl;simp[jD,this]
 |c :: r,k+1,h1,h2,h3=>by
  have hc:=h1 0 af c rfl;have:=kW p r k (fun i hi c hc=>h1 (i+1) af c aae) aI (fun c hc=>h3 c aae);simp[jD,hc,this]
theorem BZ (s:ByteArray) (w:World) (hs:s.size≤maxLen):Calls prog 150 #[.string s,.func (.func 151) #[] #[]] w fun e w'=>e= .returned (.int .i64 (jD mo s.data.toList))∧w=w':=by
 unfold maxLen at hs;go_enter func150,ntmps150;go_wp2;go_loop [5] (fun i=>∃ k:Nat,k≤s.size∧i= .int .i64 k∧Hid (∀ i,i<k→∀ c,s.data.toList[i]? =some c→mo c=true)) (fun i=>s.size - (intOf i).toNat);(case atStart=>exact⟨0,Nat.zero_le _,rfl,fun i hi=>absurd hi (Nat.not_lt_zero _)⟩);obtain⟨k,hk,rfl,HA⟩:=hrel;by_cases hlt:k<s.size
 ·have hsz:s.data.toList.length=s.size:=eA s;have B9:s.data.toList[k]? =some s[k]:=bH;have HG:=aa B9;have HS:=aa hsz;clear B9 hsz;have hin:=fun w=>Ru s[k] w;cases hq:mo s[k]with
  |true=>
   have HQ:=aa hq;rw[hq]at hin;have HI:=aa hin;clear hq hin;go_wp2_with (go_at_call 151;refine(HI.o _).mono ?_;rintro e w' ⟨rfl,rfl⟩);go_round;case rel=>
    refine⟨k+1,by omega,by go_num,fun i hi c hc=>?_⟩;by_cases e:i=k
    (·subst e;rw[HG.o]at hc;cases hc;exact HQ.o);exact HA.o i af c hc
   (case measure=>simp[intOf];omega)
  |false=>
   have HQ:=aa hq;rw[hq]at hin;have HI:=aa hin;clear hq hin;go_wp2_with (go_at_call 151;refine(HI.o _).mono ?_;rintro e w' ⟨rfl,rfl⟩);go_ret;refine⟨?_,rfl⟩;rw[kW mo s.data.toList k HA.o (by rw[HS.o];omega) (fun c hc=>by rw[HG.o]at hc;cases hc;exact HQ.o)];rfl
 have hsz:s.data.toList.length=s.size:=eA s;have HS:=aa hsz;clear hsz;go_wp2;go_ret;refine⟨?_,rfl⟩;rw[kW mo s.data.toList k HA.o (by rw[HS.o];omega) (fun c hc=>by rw[List.getElem?_eq_none (by rw[HS.o];omega)]at hc;cases hc)];rfl
theorem Mv (s:ByteArray) (h:0<s.size):mq s.data.toList=(cQ s[0]&&decide (s.size≤20)&&decide (jD mo s.data.toList=s.size)):=by
 have hl:=eA s;have e:s.data.toList=s[0] :: s.data.toList.tail:=by
  (have:s.data.toList[0]? =some s[0]:=by rw[List.getElem?_eq_getElem af];rfl);cases hd:s.data.toList with
  |nil=>rw[hd]at this;cases this
  |cons a b=>rw[hd]at this;simp at this;simp[this]
 have e2:decide (jD mo s.data.toList=s.size)=s.data.toList.all mo:=by
  rw[Bool.eq_iff_iff, ← yl,decide_eq_true_eq,hl]
 rw[e2];generalize s[0]=c at e;have hn:s.data.toList.tail.length+1=s.size:=(by rw[e]at hl;simpa using hl);rw[e];unfold mq;simp only[hn]
theorem tr (s:ByteArray) (w:World) (hs:s.size≤maxLen):Calls prog 82 #[.string s] w fun e w'=>e= .returned (.bool (mq s.data.toList))∧w=w':=by
 have hl:=eA s;by_cases h0:s.size=0
 (·have e0:s.data.toList=[]:=List.eq_nil_of_length_eq_zero af;have e1:s=⟨#[]⟩:=ByteArray.ext (by rw[← Array.toList_inj];exact e0);subst e1;clear e0 h0 hl hs;go_enter func82,ntmps82;go_wp2;go_ret;exact⟨rfl,rfl⟩);have hp:0<s.size:=af;rw[Mv s hp];have hne:s.toList.isEmpty=false:=by
  rw[Bool.eq_false_iff];intro h;rw[List.isEmpty_iff]at h;have:=congrArg List.length h;rw[Lib.toList_data]at this;simp only[List.length_nil]at this;omega
 have hle:=tq mo s.data.toList;rw[hl]at hle;have hlet:=fun w=>BX s[0] w;have hsp:=fun w=>BZ s w hs;generalize cQ s[0]=b at hlet ⊢;generalize jD mo s.data.toList=n at hsp hle ⊢;have HL:=aa hlet;have HSp:=aa hsp;unfold maxLen at hs;clear hlet hsp hl;have Zh:(0:Int)<(s.size:Int):=af;cases b<;>by_cases h20:s.size≤20<;>by_cases hn:n=s.size<;>
  (have hnb:((n:Int)==(s.size:Int))=decide (n=s.size):=by(rw[Bool.eq_iff_iff];simp;omega)
   simp only[hn,decide_true,decide_false]at hnb
   have HN:=aa hn
   clear hn
   go_enter func82,ntmps82
   go_wp2_with (first|(go_at_call 149;refine(HL.o _).mono ?_;rintro e w' ⟨rfl,rfl⟩)|(go_at_call 150;refine(HSp.o _).mono ?_;rintro e w' ⟨rfl,rfl⟩))
   go_ret
   exact⟨by have:=HN.o;simp[h20,this],rfl⟩)
end Go.Proofs.YtkfofnjfihfgkaaGreatDoor
namespace Sh
open Kb
inductive cD where
 |mk (op n:Int) (unit name:ByteArray) (args:List cD)
namespace cD
def op:cD→Int| .mk a _ _ _ _=>a
def n:cD→Int| .mk _ a _ _ _=>a
def unit:cD→ByteArray| .mk _ _ a _ _=>a
def name:cD→ByteArray| .mk _ _ _ a _=>a
def args:cD→List cD| .mk _ _ _ _ a=>a
end cD
structure eL where
 name:ByteArray
 unit:ByteArray
 amount:Int
 house:Int
 port:ByteArray
 version:Int
deriving DecidableEq
structure gR where
 name:ByteArray
 unit:ByteArray
 kind:ByteArray
deriving DecidableEq
structure ym where
 key:Int
 value:Int
deriving DecidableEq
structure eB where
 name:ByteArray
 unit:ByteArray
 rows:List ym
deriving DecidableEq
structure mX where
 name:ByteArray
 unit:ByteArray
deriving DecidableEq
structure eU where
 name:ByteArray
 params:List mX
 body:cD
structure cL where
 name:ByteArray
 unit:ByteArray
 iY:cD
structure kO where
 name:ByteArray
 unit:ByteArray
 amount:Int
deriving DecidableEq
structure jz where
 name:ByteArray
 unit:ByteArray
 rule:Int
deriving DecidableEq
structure dV where
 kind:Int
 inp:List ByteArray
 o:List ByteArray
 name:ByteArray
 cells:List ByteArray
 amount:Int
deriving DecidableEq
structure cw where
 kind:ByteArray
 steps:List dV
deriving DecidableEq
structure bY where
 name:ByteArray
 imports:List eL
 inputs:List gR
 tables:List eB
 funcs:List eU
 cells:List cL
 b9:List kO
 stores:List jz
 bX:List cw
def bs (l:List UInt8):ByteArray:=⟨l.toArray⟩
def words:List Bytes:=[[110,111,116],[105,102],[116,104,101,110],[101,108,115,101],[97,110,100],[111,114],[108,111,111,107],[109,105,110],[109,97,120],[105,110,116,111],[116,111],[97,115]]
def zG (s:ByteArray):Bool:=words.contains s.data.toList
def cT (s:ByteArray):Bool:=mq s.data.toList&& !zG s
def dD (s:Bytes):Option (Nat×Int):=
 if s=[103]then some (0,1)else if s=[116]then some (0,1)else if s=[109]then some (1,1)else if s=[108]then some (1,3)
 else if s=[115]then some (2,1)else if s=[104]then some (2,1)else if s=[100]then some (2,1)else if s=[74]then some (3,1)
 else if s=[87,104]then some (3,1)else if s=[99,101,110,116]then some (4,1)else if s=[101,117,114]then some (4,1)else if s=[112,99]then some (5,1)else none
def qm (c:UInt8):Bool:=c==107||c==77||c==71||c==109
def lD (s:Bytes):Bool:=s=[103]||s=[109]||s=[108]||s=[115]||s=[74]||s=[87,104]
def iw (s:Bytes):Option (Nat×Int):=match dD s with
 |some x=>some x
 |none=>match s with
  |[]=>none
  |c :: r=>match dD r with
   |none=>none
   |some x=>if qm c&&lD r then some x else none
structure iZ where
 word:Bytes
 exp:Int
deriving DecidableEq
def mY (s:Bytes):Int×Bytes:=match s with
 |[]=>(1,[])
 |c :: r=>if 50≤c&&c≤57 then((c.toNat:Int) - 48,r)else(1,s)
def qI:Nat→Bytes→Option (List iZ)
 |0,s=>if s=[]then some []else none
 |k+1,s=>match s with
  |[]=>some []
  |g :: r=>
   let w:=r.takeWhile cQ
   let y:=mY (r.dropWhile cQ)
   if w=[]|| !(g==42||g==47)then none
   else match qI k y.2 with
    |none=>none
    |some l=>some (⟨w,if g=47 then -y.1 else y.1⟩ :: l)
def gI (s:Bytes):Option (List iZ):=match s with
 |[]=>some []
 |c :: r=>if s.length≤40 then(if c=49 then qI 40 r else qI 41 (42 :: s))else none
def addAt (d:List Int) (k:Nat) (z:Int):List Int:=d.set k (d.getD k 0+z)
def wD:List iZ→List Int→Option (List Int)
 |[],d=>some d
 |x :: l,d=>match iw x.word with
  |none=>none
  |some (k,e)=>wD l (addAt d k (e*x.exp))
def oU (d:List Int):Bool:=d.all fun e=>decide (-9≤e)&&decide (e≤9)
def iI:List Int:=[0,0,0,0,0,0]
def iJ (s:ByteArray):Int×List Int:=match gI s.data.toList with
 |none=>(12,iI)
 |some l=>match wD l iI with
  |none=>(11,iI)
  |some d=>if oU d then(0,d)else(3,iI)
def cI (s:ByteArray):Bool:=(iJ s).1==0
mutual
def cU:cD→Nat
 | .mk _ _ _ _ l=>1+eC l
def eC:List cD→Nat
 |[]=>0
 |x :: l=>cU x+eC l
end
mutual
def fM:cD→Nat
 | .mk _ _ _ _ l=>1+gJ l
def gJ:List cD→Nat
 |[]=>0
 |x :: l=>max (fM x) (gJ l)
end
def mZ (c:UInt8):Bool:=32≤c&&c≤126
def mz (s:ByteArray):Bool:=decide (s.size≤400)&&s.data.toList.all mZ
def qp (op:Int):Bool:=(decide (6≤op)&&decide (op≤9))||(decide (12≤op)&&decide (op≤15))
def fR (s:ByteArray):Bool:=s.size==0
def mA (op n:Int) (unit name:ByteArray) (k:Nat):Bool:=
 if op=0 then mz unit&&decide (0≤n)&&decide (n≤1099511627776)&&fR name&&k==0
 else if !(n==0)|| !fR unit then false
 else if op=1 then cT name&&k==0
 else if op=2 then cT name&&k==1
 else if op=3 then cT name&&decide (1≤k)&&decide (k≤6)
 else if op=4 then fR name&&k==1
 else if op=5 then fR name&&k==3
 else if op=10||op=11 then fR name&&k==2
 else qp op&&fR name&&k==2
mutual
def eF:cD→Bool
 | .mk op n unit name l=>mA op n unit name l.length&&iK l
def iK:List cD→Bool
 |[]=>true
 |x :: l=>eF x&&iK l
end
def fj (x:cD):Bool:=(decide (cU x≤200)&&decide (fM x≤20))&&eF x
def Mw (n:Int):Bool:=decide (-1099511627776≤n)&&decide (n≤1099511627776)
def oG:Option Int→List ym→Bool
 |_,[]=>true
 |last,r :: l=>Mw r.key&&Mw r.value&&(match last with|none=>true|some k=>decide (k<r.key))&&oG (some r.key) l
def fG (t:eB):Bool:=cI t.unit&&mq t.name.data.toList&&decide (t.rows.length≤100)&&oG none t.rows
def dN (n:Int):Bool:=decide (1≤n)&&decide (n≤1099511627776)
def gy (l:List ByteArray) (low high:Nat):Bool:=decide (low≤l.length)&&decide (l.length≤high)&&l.all cT
structure ShapeV where
 word:Bytes
 in0:Nat
 in1:Nat
 out0:Nat
 Zi:Nat
 name:Bool
 cells:Bool
 wE:Bool
def shapeOf (k:Int):ShapeV:=
 if k=0 then⟨[109,101,116,101,114],0,0,1,1,true,false,false⟩
 else if k=1 then⟨[116,97,107,101],0,0,1,1,true,false,false⟩
 else if k=2 then⟨[100,114,97,119],0,0,1,1,true,false,true⟩
 else if k=3 then⟨[115,112,108,105,116],1,1,1,100,false,true,false⟩
 else if k=4 then⟨[106,111,105,110],1,100,1,1,false,false,false⟩
 else if k=5 then⟨[103,105,118,101],1,1,0,0,true,false,false⟩
 else if k=6 then⟨[112,117,116],1,1,0,0,true,false,true⟩
 else if k=7 then⟨[108,111,115,101],1,1,0,0,true,false,false⟩
 else⟨[114,101,115,116],1,1,0,0,false,false,false⟩
def dO (x:dV):Bool:=
 if x.kind<0∨9≤x.kind then false else
 let s:=shapeOf x.kind
 let n:=if s.cells then x.o.length else 0
 gy x.inp s.in0 s.in1&&gy x.o s.out0 s.Zi&&gy x.cells n n&&(if s.name then cT x.name else fR x.name)&&(if s.wE then dN x.amount else x.amount==0)
def fD (x:eL):Bool:=dN x.amount&&decide (0≤x.house)&&decide (x.house<400)&&decide (0≤x.version)&&decide (x.version≤2000)&&cT x.port
def iQ (x:gR):Bool:=fR x.kind||cT x.kind
def mC (x:jz):Bool:=decide (0≤x.rule)&&decide (x.rule<3)
def kX (p:mX):Bool:=cT p.name&&cI p.unit
def jU (f:eU):Bool:=f.params.all kX&&(decide (1≤f.params.length)&&decide (f.params.length≤6)&&fj f.body)
def jE (c:cL):Bool:=cI c.unit&&fj c.iY
abbrev IG:=ByteArray×Bool
def ei (s:bY):List IG:=
 s.imports.map (fun x=>(x.name,cI x.unit&&fD x))++s.inputs.map (fun x=>(x.name,cI x.unit&&iQ x))++
 s.b9.map (fun x=>(x.name,cI x.unit&&dN x.amount))++s.stores.map (fun x=>(x.name,cI x.unit&&mC x))
def eE (s:bY):List IG:=
 s.tables.map (fun x=>(x.name,fG x))++s.funcs.map (fun x=>(x.name,jU x))++s.cells.map (fun x=>(x.name,jE x))
def uses (s:bY):List IG:=ei s++eE s
def oV (seen:List ByteArray):List IG→Bool
 |[]=>true
 |(n,b) :: l=>b&&cT n&& !seen.contains n&&oV (n :: seen) l
def dW (x:cw):Bool:=decide (x.steps.length≤100)&&x.steps.all dO
def cN (s:bY):Bool:=
 cT s.name&&oV [] (uses s)&&decide ((uses s).length+s.bX.length≤100)&&oV [] (s.bX.map fun x=>(x.kind,dW x))
end Sh
section
open Go Go.RowKit Sh
theorem cJ {w:World} (o:Obj):Below w.heap.size w (w.alloc o):=(Below.refl _ _).alloc (Nat.le_refl _) o
structure MacI where
def bR:MacI:=⟨⟩
instance:CoeFun MacI (fun _=>Int→Value):=⟨fun _=>.int .i64⟩
instance:Coe World Nat:=⟨fun w=>w.heap.size⟩
structure MacZ where
def cG:MacZ:=⟨⟩
instance:CoeDep MacZ cG Value:=⟨.slice none 0 0⟩
structure MacY where
def gh:MacY:=⟨⟩
instance:CoeDep MacY gh (List Value):=⟨[.string ⟨#[]⟩,.slice none 0 0,.slice none 0 0,.slice none 0 0,.slice none 0 0,.slice none 0 0,.slice none 0 0,.slice none 0 0,.slice none 0 0]⟩
structure MacL where
def bQ:MacL:=⟨⟩
instance:CoeFun MacL (fun _=>Option Addr→Nat→Nat→Value):=⟨fun _=>.slice⟩
structure MacW where
def bV:MacW:=⟨⟩
instance:CoeFun MacW (fun _=>ByteArray→Value):=⟨fun _=>.string⟩
instance:CoeDep MacY gh (Array Value):=⟨#[.string ⟨#[]⟩,.slice none 0 0,.slice none 0 0,.slice none 0 0,.slice none 0 0,.slice none 0 0,.slice none 0 0,.slice none 0 0,.slice none 0 0]⟩
structure MacP (p k:Nat) where
def bS (p k:Nat):MacP p k:=⟨⟩
instance {p k:Nat}:CoeOut (MacP p k) Addr:=⟨fun _=>⟨p,k,none⟩⟩
instance {p k:Nat}:CoeOut (MacP p k) (Option Addr):=⟨fun _=>some ⟨p,k,none⟩⟩
instance {α:Type}:CoeOut (List α) Nat:=⟨List.length⟩
structure MacC (w:World) (p k:Nat) (v:Value) where
def bW (w:World) (p k:Nat) (v:Value):MacC w p k v:=⟨⟩
instance {w:World} {p k:Nat} {v:Value}:CoeSort (MacC w p k v) Prop:=⟨fun _=>w.cell? ⟨p,k,none⟩=some v⟩
instance {w:World} {p k:Nat} {v:Value}:CoeOut (MacC w p k v) Prop:=⟨fun _=>w.cell? ⟨p,k,none⟩=some v⟩
structure MacS (s:bY) (A1 A2 A3 A4 A5 A6 A7 A8:Option Addr) (q1 q2 q3 q4 q5 q6 q7 q8:Nat) where
def cz (s:bY) (A1 A2 A3 A4 A5 A6 A7 A8:Option Addr) (q1 q2 q3 q4 q5 q6 q7 q8:Nat):MacS s A1 A2 A3 A4 A5 A6 A7 A8 q1 q2 q3 q4 q5 q6 q7 q8:=⟨⟩
instance {s:bY} {A1 A2 A3 A4 A5 A6 A7 A8:Option Addr} {q1 q2 q3 q4 q5 q6 q7 q8:Nat}:CoeOut (MacS s A1 A2 A3 A4 A5 A6 A7 A8 q1 q2 q3 q4 q5 q6 q7 q8) (List Value):=⟨fun _=>[.string s.name,.slice A1 s.imports.length q1,.slice A2 s.inputs.length q2,.slice A3 s.tables.length q3,.slice A4 s.funcs.length q4,.slice A5 s.cells.length q5,.slice A6 s.b9.length q6,.slice A7 s.stores.length q7,.slice A8 s.bX.length q8]⟩
instance {s:bY} {A1 A2 A3 A4 A5 A6 A7 A8:Option Addr} {q1 q2 q3 q4 q5 q6 q7 q8:Nat}:CoeOut (MacS s A1 A2 A3 A4 A5 A6 A7 A8 q1 q2 q3 q4 q5 q6 q7 q8) (Array Value):=⟨fun _=>#[.string s.name,.slice A1 s.imports.length q1,.slice A2 s.inputs.length q2,.slice A3 s.tables.length q3,.slice A4 s.funcs.length q4,.slice A5 s.cells.length q5,.slice A6 s.b9.length q6,.slice A7 s.stores.length q7,.slice A8 s.bX.length q8]⟩
end
