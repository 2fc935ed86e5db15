/- Parts of the proof, packed (LeanP to Tab1); each theorem bears its own conditions. -/
import Derived.Test.YtfppbjfnllhgcaaGreatPp06
set_option linter.unusedVariables false
set_option linter.unusedSimpArgs false
set_option maxRecDepth 100000
set_option maxHeartbeats 8000000
open Go.Proofs.Tryz
open Go.Lib renaming hid → aa
open Nat renaming le_refl→aaB,le_trans→aaC,zero_le→aaG,add_mul→aaA
open Go.World renaming size_alloc→aaI
open List renaming getElem_mem→aan,length_append→aao,getD_eq_getElem?_getD→aam,mem_singleton→aau,mem_cons→aas,mem_append→aar,take_succ_eq_append_getElem→aaz,mem_map→aat,drop_eq_getElem_cons→aah,length_take→aaq,replicate→aaw,range→aav
open Go.RowKit.Below renaming refl→aaf,heap_setCell→aae
open Bool renaming and_eq_true→aag
namespace Ln
open Kb Sh
section
abbrev eN:=Int×ByteArray
def kH (L:List eN):List eN→List eN
 |[]=>L
 |y :: l=>kH (if y∈L then L else L++[y]) l
theorem Db {x:eN}:∀ (l L:List eN),x∈kH L l↔x∈L∨x∈l
 |[],L=>by simp[kH]
 |y :: l,L=>by
  rw[kH,Db l];by_cases h:y∈L
  ·rw[if_pos h];constructor
   ·rintro(h1|h1)
    (·exact .inl h1);exact .inr (.tail _ h1)
   rintro(h1|h1)
   (·exact .inl h1);rcases aas.1 h1 with rfl|h2
   (·exact .inl h);exact .inr h2
  rw[if_neg h];simp[or_assoc]
theorem sY:∀ (l L:List eN),∃ t,kH L l=L++t∧∀ x∈t,x∈l
 |[],L=>⟨[],by simp[kH],by simp⟩
 |y :: l,L=>by
  rw[kH];by_cases h:y∈L
  (·rw[if_pos h];obtain⟨t,h1,h2⟩:=sY l L;exact⟨t,h1,fun x hx=> .tail _ (h2 x hx)⟩);rw[if_neg h];obtain⟨t,h1,h2⟩:=sY l (L++[y]);refine⟨y :: t,by rw[h1,List.append_assoc];rfl,fun x hx=>?_⟩;rcases aas.1 hx with rfl|h3
  (·exact .head _);exact .tail _ (h2 x h3)
theorem rC:∀ (l L:List eN),L.Nodup→(kH L l).Nodup
 |[],L,h=>h
 |y :: l,L,h=>by
  rw[kH];by_cases hy:y∈L
  (·rw[if_pos hy];exact rC l L h);rw[if_neg hy];refine rC l _ (List.nodup_append.2 ⟨h,by simp,fun a ha b hb=>?_⟩);rintro rfl;rcases aau.1 hb with rfl;exact hy ha
theorem JD (l L:List eN):L.length≤(kH L l).length:=by
 obtain⟨t,h,_⟩:=sY l L;rw[h,aao];omega
def P4 (g:eN→List eN):Nat→Nat→List eN→List eN
 |0,_,L=>L
 |f+1,k,L=>match L[k]? with
  |none=>L
  |some x=>P4 g f (k+1) (kH L (g x))
structure Inv (g:eN→List eN) (a:eN) (k:Nat) (L:List eN):Prop where
 nodup:L.Nodup
 first:L[0]? =some a
 back:∀ j (h:j<L.length),0<j→∃ i,∃ h2:i<j,L[j]∈g (L[i]' af)
 closed:∀ i (h:i<L.length),i<k→∀ y∈g L[i],y∈L
theorem Inv.start (g:eN→List eN) (a:eN):Inv g a 0 [a]:=⟨by simp,rfl,fun j h h0=>by simp at h;omega,fun i h h0=>by omega⟩
theorem Inv.step {g:eN→List eN} {a:eN} {k:Nat} {L:List eN} (I:Inv g a k L) (hk:k<L.length):Inv g a (k+1) (kH L (g L[k])):=by
 obtain⟨t,ht,hm⟩:=sY (g L[k]) L;have hl:=JD (g L[k]) L;refine⟨rC _ _ I.nodup,?_,fun j h h0=>?_,fun i h hi y hy=>(Db _ _).2 ?_⟩
 (·(rw[ht,List.getElem?_append_left af];exact I.first))
 ·by_cases hj:j<L.length
  (·obtain⟨i,h2,h3⟩:=I.back j hj h0;refine⟨i,h2,?_⟩;simp only[ht];rw[List.getElem_append_left hj,List.getElem_append_left (show i<L.length by omega)];exact h3);refine⟨k,by omega,?_⟩;simp only[ht];rw[List.getElem_append_right (show L.length≤j by omega),List.getElem_append_left hk];exact hm _ (aan _)
 by_cases hi2:i=k
 ·subst hi2
  right
  simp only[ht]at hy
  rwa [List.getElem_append_left hk]at hy
 left;simp only[ht]at hy;rw[List.getElem_append_left (show i<L.length by omega)]at hy;exact I.closed i af af y hy
theorem ot {α:Type} [DecidableEq α]:∀ {l U:List α},l.Nodup→(∀ x∈l,x∈U)→l.length≤U.length
 |[],_,_,_=>aaG _
 |x :: l,U,h,hs=>by
  have hx:=hs x (.head _);have h2:=List.nodup_cons.1 h;have:=ot (l:=l) (U:=U.erase x) h2.2 fun y hy=>(List.mem_erase_of_ne (fun(e:y=x)=>h2.1 (e▸hy))).2 (hs y (.tail _ hy));rw[List.length_erase_of_mem hx]at this;have:=List.length_pos_of_mem hx;simp;omega
theorem Inv.sub {g:eN→List eN} {a:eN} {U:List eN} (ha:a∈U) (hU:∀ x,∀ y∈g x,y∈U) {k:Nat} {L:List eN} (I:Inv g a k L):(∀ x∈L,x∈U)∧L.length≤U.length:=by
 have h:∀ x∈L,x∈U:=fun x hx=>by
  obtain⟨j,hj,rfl⟩:=List.getElem_of_mem hx;by_cases h0:j=0
  (·subst h0;(have:=I.first);rw[List.getElem?_eq_getElem hj]at this;injection this with this;rw[this];exact ha);obtain⟨i,_,h3⟩:=I.back j hj af;exact hU _ _ h3
 exact⟨h,ot I.nodup h⟩
theorem Oy {g:eN→List eN} {a:eN}:∀ (f k:Nat) (L:List eN),Inv g a k L→k≤L.length→∃ k',Inv g a k' (P4 g f k L)∧k'≤(P4 g f k L).length∧(k'=(P4 g f k L).length∨k'=k+f)
 |0,k,L,I,hk=>⟨k,I,hk,.inr rfl⟩
 |f+1,k,L,I,hk=>by
  unfold P4;by_cases h:k<L.length
  (·rw[List.getElem?_eq_getElem h];obtain⟨k',h1,h2,h3⟩:=Oy f (k+1) _ (I.step h) (by have:=JD (g L[k]) L;omega);exact⟨k',h1,h2,h3.elim .inl fun h=> .inr af⟩);rw[List.getElem?_eq_none (show L.length≤k by omega)];exact⟨k,I,hk,.inl (by show k=L.length;omega)⟩
def from_ (g:eN→List eN) (n:Nat) (a:eN):List eN:=P4 g n 0 [a]
theorem jN {g:eN→List eN} {a:eN} {U:List eN} (ha:a∈U) (hU:∀ x,∀ y∈g x,y∈U):Inv g a (from_ g U.length a).length (from_ g U.length a):=by
 obtain⟨k',h1,h2,h3⟩:=Oy U.length 0 [a] (Inv.start g a) (aaG _);have h4:=(h1.sub ha hU).2;have:k'=(from_ g U.length a).length:=by
  rcases h3 with h3|h3
  (·exact h3);unfold from_;omega
 rw[← this];exact h1
theorem TE {g:eN→List eN} {f k:Nat} {L:List eN} (h:k<L.length):P4 g (f+1) k L=P4 g f (k+1) (kH L (g L[k])):=by
 rw[P4,List.getElem?_eq_getElem h]
theorem Xa {g:eN→List eN} {f k:Nat} {L:List eN} (h:L.length≤k):P4 g f k L=L:=by
 cases f with
 |zero=>rfl
 |succ f=>rw[P4,List.getElem?_eq_none h]
section
variable {g:eN→List eN} {a:eN} {U:List eN} (ha:a∈U) (hU:∀ x,∀ y∈g x,y∈U)
include ha hU
theorem MH:(from_ g U.length a).Nodup:=(jN ha hU).nodup
theorem yG:a∈from_ g U.length a:=List.mem_of_getElem? (jN ha hU).first
theorem sZ {x y:eN} (hx:x∈from_ g U.length a) (hy:y∈g x):y∈from_ g U.length a:=by
 obtain⟨j,hj,rfl⟩:=List.getElem_of_mem hx;exact(jN ha hU).closed j hj hj y hy
theorem TF {P:eN→Prop} (h0:P a) (h1:∀ x y,P x→y∈g x→P y) {x:eN} (hx:x∈from_ g U.length a):P x:=by
 have key:∀ n j (h:j<(from_ g U.length a).length),j<n→P (from_ g U.length a)[j]:=by
  intro n;induction n with
  |zero=>intro j _ h;omega
  |succ n ih=>
   intro j h hj;by_cases h0':j=0
   (·subst h0';(have:=(jN ha hU).first);rw[List.getElem?_eq_getElem h]at this;injection this with this;rw[this];exact h0);obtain⟨i,h2,h3⟩:=(jN ha hU).back j h af;exact h1 _ _ (ih i af af) h3
 obtain⟨j,hj,rfl⟩:=List.getElem_of_mem hx;exact key _ j hj (Nat.lt_succ_self j)
theorem TG {x:eN}:x∈from_ g U.length a↔x=a∨∃ y∈from_ g U.length a,x∈g y:=by
 constructor
 ·intro hx;obtain⟨j,hj,rfl⟩:=List.getElem_of_mem hx;by_cases h0:j=0
  (·subst h0;(have:=(jN ha hU).first);rw[List.getElem?_eq_getElem hj]at this;injection this with this;exact .inl this);obtain⟨i,h2,h3⟩:=(jN ha hU).back j hj af;exact .inr ⟨_,aan _,h3⟩
 rintro(rfl|⟨y,hy,hx⟩)
 (·exact yG ha hU);exact sZ ha hU hy hx
theorem MI {b:eN} (hb:b∈from_ g U.length a) {x:eN} (hx:x∈from_ g U.length b):x∈from_ g U.length a:=
 TF ((jN ha hU).sub ha hU |>.1 b hb) hU (P:=fun x=>x∈from_ g U.length a) hb (fun x y h h2=>sZ ha hU h h2) hx
end
end
end Ln
namespace Ln
open Go.Proofs.YtfppbjfnllhgcaaGreat Kb Sh
section
def js (jt:ByteArray→Bool) (par:Bool) (op:Int) (nm:ByteArray):List eN:=
 if op=2 then[(2,nm)]else if op=3 then[(3,nm)]else if op=1∧par=false then(if jt nm=true then[(4,nm)]else[(1,nm)])else[]
mutual
def fL (jt:ByteArray→Bool) (par:Bool):cw→List eN
 | .mk op _ _ nm l=>js jt par op nm++iz jt par l
def iz (jt:ByteArray→Bool) (par:Bool):List cw→List eN
 |[]=>[]
 |x :: l=>fL jt par x++iz jt par l
end
def kD (c:Int) (nm:ByteArray) (y:cw):Bool:=y.name==nm&&((y.op==1&&(c==1||c==4))||(y.op==2&&c==2)||(y.op==3&&c==3))
def ez (c:Int) (nm:ByteArray) (x:cw):Bool:=dK (kD c nm) x
theorem uF (jt:ByteArray→Bool) (par:Bool):∀ a b:List cw,iz jt par (a++b)=iz jt par a++iz jt par b
 |[],b=>by simp[iz]
 |x :: a,b=>by rw[List.cons_append,iz,iz,uF jt par a b,List.append_assoc]
theorem u_ {jt:ByteArray→Bool} {par:Bool} {z:eN}:∀ l:List cw,z∈iz jt par l↔∃ x∈l,z∈fL jt par x
 |[]=>by simp[iz]
 |x :: l=>by
  rw[iz,aar,u_ l];simp
theorem vg {jt:ByteArray→Bool} {par:Bool} {z:eN} {q:cw→Bool} (hq:∀ y,q y=true↔z∈js jt par y.op y.name) (N:Nat):∀ x:cw,cE x≤N→(z∈fL jt par x↔dK q x=true):=by
 induction N with
 |zero=>intro x hx;have:=dB x;omega
 |succ N ih=>
  intro x hx;cases x with
  |mk op n u nm l=>
   have hl:∀ y∈l,cE y≤N:=fun y hy=>by
    have h1:=dP l y hy;have h2:cE (.mk op n u nm l)=1+cT l:=aM;omega
   rw[lQ,fL,aar,Bool.or_eq_true,hq,u_,List.any_eq_true];constructor
   ·rintro(h|⟨y,hy,h⟩)
    (·exact .inl h);exact .inr ⟨y,hy,(ih y (hl y hy)).1 h⟩
   rintro(h|⟨y,hy,h⟩)
   (·exact .inl h);exact .inr ⟨y,hy,(ih y (hl y hy)).2 h⟩
def iV (s:cK) (nm:ByteArray):Bool:=s.cells.any fun c=>c.name==nm
def Eh (s:cK) (z:eN):List eN:=
 if z.1=4 then match s.cells.find? fun c=>c.name==z.2 with
  |some c=>fL (iV s) false c.kY
  |none=>[]
 else if z.1=3 then match s.funcs.find? fun f=>f.name==z.2 with
  |some f=>fL (fun _=>false) true f.body
  |none=>[]
 else[]
def kT (s:cK):List eN:=s.inputs.map (fun x=>((1:Int),x.name))++s.tables.map (fun x=>((2:Int),x.name))++s.funcs.map (fun x=>((3:Int),x.name))++s.cells.map (fun x=>((4:Int),x.name))
def jk (s:cK) (a b:eN):Bool:=
 (s.funcs.any fun f=>a.1==3&&f.name==a.2&&(b.1==2||b.1==3)&&ez b.1 b.2 f.body)||s.cells.any fun c=>a.1==4&&c.name==a.2&&ez b.1 b.2 c.kY
structure Oz (s:cK):Prop where
 cells:(s.cells.map (·.name)).Nodup
 funcs:(s.funcs.map (·.name)).Nodup
 both:∀ x∈s.inputs,∀ c∈s.cells,x.name≠c.name
theorem Am {s:cK} (h:fV s=true):Oz s:=by
 have hn:=(sJ h).1;have e:(uses s).map (·.1)=((s.imports.map (·.name)++s.inputs.map (·.name))++s.ei.map (·.name)++s.stores.map (·.name))++((s.tables.map (·.name)++s.funcs.map (·.name))++s.cells.map (·.name)):=(by simp[uses,gP,iA,Function.comp_def]);rw[e]at hn;obtain⟨h1,h2,h3⟩:=List.nodup_append.1 hn;obtain⟨h4,h5,h6⟩:=List.nodup_append.1 h2;obtain⟨h7,h8,h9⟩:=List.nodup_append.1 h4;exact⟨h5,h8,fun x hx c hc=>h3 _ (List.mem_append_left _ (List.mem_append_left _ (List.mem_append_right _ (aat.2 ⟨x,hx,rfl⟩)))) _ (List.mem_append_right _ (aat.2 ⟨c,hc,rfl⟩))⟩
theorem yH {α:Type} {f:α→ByteArray}:∀ {l:List α},(l.map f).Nodup→∀ {c:α},c∈l→l.find? (fun x=>f x==f c)=some c
 |[],_,c,hc=>by cases hc
 |x :: l,hn,c,hc=>by
  rw[List.map_cons]at hn;have h2:=List.nodup_cons.1 hn;rw[List.find?_cons];rcases aas.1 hc with rfl|h
  (·simp);have:(f x==f c)=false:=by
   rw[Bool.eq_false_iff];intro e;exact h2.1 ((eq_of_beq e)▸aat.2 ⟨c,h,rfl⟩)
  rw[this];exact yH h2.2 h
section
variable {s:cK} (A:Oz s)
include A
theorem Dc {c:fD} (hc:c∈s.cells):Eh s (4,c.name)=fL (iV s) false c.kY:=by
 unfold Eh;rw[if_pos rfl];have:=yH A.cells hc;show(match s.cells.find? (fun x=>x.name==c.name)with|some c=>fL (iV s) false c.kY|none=>[])=_;rw[this]
theorem JE {f:cL} (hf:f∈s.funcs):Eh s (3,f.name)=fL (fun _=>false) true f.body:=by
 unfold Eh;rw[if_neg (by show ¬(3:Int)=4;decide),if_pos rfl];have:=yH A.funcs hf;show(match s.funcs.find? (fun x=>x.name==f.name)with|some f=>fL (fun _=>false) true f.body|none=>[])=_;rw[this]
theorem JF {x:iT} (hx:x∈s.inputs):iV s x.name=false:=by
 unfold iV;rw[List.any_eq_false];intro c hc e;exact A.both x hx c hc (eq_of_beq e).symm
theorem yI {z:eN} (hz:z∈kT s) (x:cw):z∈fL (iV s) false x↔ez z.1 z.2 x=true:=by
 refine vg (fun y=>?_) _ x aac;have hc:(z.1=1∧iV s z.2=false)∨z.1=2∨z.1=3∨(z.1=4∧iV s z.2=true):=by
  simp only[kT,aar,aat]at hz;rcases hz with((⟨x,hx,rfl⟩|⟨x,hx,rfl⟩)|⟨x,hx,rfl⟩)|⟨x,hx,rfl⟩
  (·exact .inl ⟨rfl,JF A hx⟩)
  (·exact .inr (.inl rfl))
  (·exact .inr (.inr (.inl rfl)));refine .inr (.inr (.inr ⟨rfl,?_⟩));unfold iV;exact List.any_eq_true.2 ⟨x,hx,by simp⟩
 obtain⟨c,nm⟩:=z;unfold kD js;generalize y.op=o;generalize y.name=m;have GI:(m=nm)↔(nm=m):=⟨Eq.symm,Eq.symm⟩;by_cases h2:o=2
 (·subst h2;rw[if_pos rfl];rcases hc with⟨h,_⟩|h|h|⟨h,_⟩<;>(dsimp only at h;subst h;simp[GI]));rw[if_neg h2];by_cases h3:o=3
 (·subst h3;rw[if_pos rfl];rcases hc with⟨h,_⟩|h|h|⟨h,_⟩<;>(dsimp only at h;subst h;simp[GI]));rw[if_neg h3];by_cases h1:o=1
 ·subst h1;rw[if_pos ⟨rfl,rfl⟩];rcases hc with⟨h,hb⟩|h|h|⟨h,hb⟩<;>dsimp only at h<;>subst h
  ·by_cases e:nm=m
   (·subst e;rw[if_neg (by rw[hb];decide)];simp);by_cases h4:iV s m=true
   (·rw[if_pos h4];simp[GI,e]);rw[if_neg h4];simp[GI,e]
  ·by_cases h4:iV s m=true
   (·rw[if_pos h4];simp);rw[if_neg h4];simp
  ·by_cases h4:iV s m=true
   (·rw[if_pos h4];simp);rw[if_neg h4];simp
  by_cases e:nm=m
  (·subst e;rw[if_pos hb];simp);by_cases h4:iV s m=true
  (·rw[if_pos h4];simp[GI,e]);rw[if_neg h4];simp[GI,e]
 rw[if_neg (fun h=>h1 h.1)];simp[h1,h2,h3]
omit A in theorem Fb {z:eN} (hz:z∈kT s) (x:cw):z∈fL (fun _=>false) true x↔((z.1==2||z.1==3)&&ez z.1 z.2 x)=true:=by
 by_cases h:z.1=2∨z.1=3
 ·rw[show(z.1==2||z.1==3)=true by rcases h with h|h<;>simp[h],Bool.true_and];refine vg (fun y=>?_) _ x aac;obtain⟨c,nm⟩:=z;unfold kD js;generalize y.op=o;generalize y.name=m;have GI:(m=nm)↔(nm=m):=⟨Eq.symm,Eq.symm⟩;by_cases h2:o=2
  (·subst h2;rw[if_pos rfl];rcases h with h|h<;>(dsimp only at h;subst h;simp[GI]));rw[if_neg h2];by_cases h3:o=3
  (·subst h3;rw[if_pos rfl];rcases h with h|h<;>(dsimp only at h;subst h;simp[GI]));rw[if_neg h3,if_neg (fun h=>by cases h.2)];rcases h with h|h<;>(dsimp only at h;subst h;simp[h2,h3])
 rw[show(z.1==2||z.1==3)=false by simpa using h,Bool.false_and];have:=vg (jt:=fun _=>false) (par:=true) (z:=z) (q:=fun _=>false) (fun y=>by
  unfold js;obtain⟨c,nm⟩:=z;constructor
  (·intro h;cases h);intro hm;exfalso;by_cases h2:y.op=2
  (·rw[if_pos h2]at hm;have:=aau.1 hm;injection this with e1 e2;exact h (.inl e1));rw[if_neg h2]at hm;by_cases h3:y.op=3
  (·rw[if_pos h3]at hm;have:=aau.1 hm;injection this with e1 e2;exact h (.inr e1));rw[if_neg h3,if_neg (fun h=>by cases h.2)]at hm;cases hm) _ x aac
 rw[this];constructor
 ·intro hs;exfalso;have key:∀ N (x:cw),cE x≤N→dK (fun _=>false) x=false:=by
   intro N;induction N with
   |zero=>intro x hx;have:=dB x;omega
   |succ N ih=>
    intro x hx;cases x with
    |mk op n u nm l=>
     rw[lQ,Bool.false_or,List.any_eq_false];intro y hy;have h1:=dP l y hy;have h2:cE (.mk op n u nm l)=1+cT l:=aM;rw[ih y af];decide
  rw[key _ x aac]at hs;cases hs
 intro h;cases h
theorem Dd {y z:eN} (hz:z∈kT s):jk s y z=true↔z∈Eh s y:=by
 obtain⟨k,nm⟩:=y;unfold jk;rw[Bool.or_eq_true,List.any_eq_true,List.any_eq_true];constructor
 ·rintro(⟨f,hf,h⟩|⟨c,hc,h⟩)
  (·simp only[aag,beq_iff_eq]at h;obtain⟨⟨⟨h1,h2⟩,h3⟩,h4⟩:=h;subst h1 h2;rw[JE A hf];exact(Fb hz _).2 (by simp only[h3,h4,Bool.and_self]));simp only[aag,beq_iff_eq]at h;obtain⟨⟨h1,h2⟩,h4⟩:=h;subst h1 h2;rw[Dc A hc];exact(yI A hz _).2 h4
 intro h;unfold Eh at h;by_cases h4:k=4
 ·subst h4;rw[if_pos rfl]at h;cases hf:s.cells.find? (fun c=>c.name==nm)with
  |none=>rw[show(s.cells.find? fun c=>c.name==((4:Int),nm).2)=none from hf]at h;cases h
  |some c=>
   rw[show(s.cells.find? fun c=>c.name==((4:Int),nm).2)=some c from hf]at h;have h1:=List.find?_some hf;have h2:=List.mem_of_find?_eq_some hf;exact .inr ⟨c,h2,by rw[h1,(yI A hz _).1 h];rfl⟩
 rw[if_neg h4]at h;by_cases h3:k=3
 ·subst h3;rw[if_pos rfl]at h;cases hf:s.funcs.find? (fun c=>c.name==nm)with
  |none=>rw[show(s.funcs.find? fun c=>c.name==((3:Int),nm).2)=none from hf]at h;cases h
  |some f=>
   rw[show(s.funcs.find? fun c=>c.name==((3:Int),nm).2)=some f from hf]at h;have h1:=List.find?_some hf;have h2:=List.mem_of_find?_eq_some hf;have h5:=(Fb hz _).1 h;rw[aag]at h5;exact .inl ⟨f,h2,by rw[h1,h5.1,h5.2];rfl⟩
 rw[if_neg h3]at h;cases h
end
def univ (s:cK):List eN:=s.cells.map (fun c=>((4:Int),c.name))++(s.cells.flatMap (fun c=>fL (iV s) false c.kY)++s.funcs.flatMap fun f=>fL (fun _=>false) true f.body)
theorem gA {s:cK} {c:fD} (hc:c∈s.cells):((4:Int),c.name)∈univ s:=List.mem_append_left _ (aat.2 ⟨c,hc,rfl⟩)
theorem fG {s:cK} (x:eN):∀ y∈Eh s x,y∈univ s:=fun y h=>by
 unfold Eh at h;by_cases h4:x.1=4
 ·rw[if_pos h4]at h;cases hf:s.cells.find? (fun c=>c.name==x.2)with
  |none=>rw[hf]at h;cases h
  |some c=>
   rw[hf]at h;exact List.mem_append_right _ (List.mem_append_left _ (List.mem_flatMap.2 ⟨c,List.mem_of_find?_eq_some hf,h⟩))
 rw[if_neg h4]at h;by_cases h3:x.1=3
 ·rw[if_pos h3]at h;cases hf:s.funcs.find? (fun c=>c.name==x.2)with
  |none=>rw[hf]at h;cases h
  |some f=>
   rw[hf]at h;exact List.mem_append_right _ (List.mem_append_right _ (List.mem_flatMap.2 ⟨f,List.mem_of_find?_eq_some hf,h⟩))
 rw[if_neg h3]at h;cases h
def vh (s:cK) (nm:ByteArray):List eN:=from_ (Eh s) (univ s).length (4,nm)
section
variable {s:cK} (A:Oz s) {c:fD} (hc:c∈s.cells)
include A hc
theorem on_iff {x:eN} (hx:x∈kT s):x∈vh s c.name↔x=(4,c.name)∨∃ y∈vh s c.name,jk s y x=true:=by
 have h:=TG (gA hc) fG (x:=x);unfold vh;rw[h];constructor
 ·rintro(h|⟨y,h1,h2⟩)
  (·exact .inl h);exact .inr ⟨y,h1,(Dd A hx).2 h2⟩
 rintro(h|⟨y,h1,h2⟩)
 (·exact .inl h);exact .inr ⟨y,h1,(Dd A hx).1 h2⟩
theorem TH {d:fD} (hd:d∈s.cells) (hn:ez 4 d.name c.kY=true) {x:eN} (hx:x∈vh s d.name):x∈vh s c.name:=by
 refine MI (gA hc) fG ?_ hx;refine sZ (gA hc) fG (yG (gA hc) fG) ?_;rw[Dc A hc];refine(yI A (z:=(4,d.name)) ?_ _).2 hn;exact List.mem_append_right _ (aat.2 ⟨d,hd,rfl⟩)
omit A in
theorem Xb:((4:Int),c.name)∈vh s c.name:=yG (gA hc) fG
omit A in
theorem JG:(vh s c.name).Nodup:=MH (gA hc) fG
end
end
end Ln
namespace Hp
def gi (l:List Int) (i:Nat):Int:=l.getD i 0
def par (i:Nat):Nat:=(i - 1) / 2
def sw (l:List Int) (i k:Nat):List Int:=(l.set i (gi l k)).set k (gi l i)
theorem gi_lt {l:List Int} {i:Nat} (h:i<l.length):l[i]? =some (gi l i):=by
 unfold gi;rw[aam,List.getElem?_eq_getElem h];rfl
theorem JH {l:List Int} {i:Nat} (h:i<l.length):gi l i=l[i]:=by
 unfold gi;rw[aam,List.getElem?_eq_getElem h];rfl
theorem TI {l:List Int} {i k:Nat}:(sw l i k).length=l.length:=by unfold sw;simp
theorem rO {l:List Int} {i k:Nat} (hi:i<l.length) (hk:k<l.length) (j:Nat):gi (sw l i k) j=if j=k then gi l i else if j=i then gi l k else gi l j:=by
 unfold sw;show((l.set i (gi l k)).set k (gi l i)).getD j 0=_;rw[aam,List.getElem?_set];by_cases h:k=j
 (·subst h;simp[hk]);rw[if_neg h,if_neg (fun e=>h e.symm),List.getElem?_set];by_cases h2:i=j
 (·subst h2;simp[hi]);rw[if_neg h2,if_neg (fun e=>h2 e.symm)];rw[← aam];rfl
theorem GJ {l:List Int} {i k:Nat} (hi:i<l.length) (hk:k<l.length):(sw l i k).Perm l:=by
 rw[List.perm_iff_count];intro a;unfold sw;rw[List.count_set (by simpa using hk),List.count_set hi,JH hi,JH hk];have h1:∀ (j:Nat) (h:j<l.length),(l[j]==a)=true→0<l.count a:=fun j h e=>List.count_pos_iff.2 ((eq_of_beq e)▸aan h);by_cases e:i=k
 ·subst e;simp only[List.getElem_set_self];have:=h1 i hi;by_cases h:(l[i]==a)=true
  (·have:=this h;simp only[h,if_true];omega);simp only[h,if_false,Bool.false_eq_true];omega
 rw[List.getElem_set_ne e];have a1:=h1 i hi;have a2:=h1 k hk;by_cases h:(l[i]==a)=true<;>by_cases h2:(l[k]==a)=true
 (·have:=a1 h;simp only[h,h2,if_true];omega)
 (·have:=a1 h;simp only[h,h2,if_true,if_false,Bool.false_eq_true];omega)
 (·have:=a2 h2;simp only[h,h2,if_true,if_false,Bool.false_eq_true];omega);simp only[h,h2,if_false,Bool.false_eq_true];omega
def Hn (l:List Int) (n:Nat):Prop:=∀ c,0<c→c<n→gi l (par c)≤gi l c
def Up (l:List Int) (j:Nat):Prop:=(∀ c,0<c→c<l.length→c≠j→gi l (par c)≤gi l c)∧(∀ c,0<c→c<l.length→par c=j→0<j→gi l (par j)≤gi l c)
def Dn (l:List Int) (n i:Nat):Prop:=(∀ c,0<c→c<n→par c≠i→gi l (par c)≤gi l c)∧(∀ c,0<c→c<n→par c=i→0<i→gi l (par i)≤gi l c)
theorem nM {c:Nat} (h:0<c):par c<c:=by unfold par;omega
theorem Xc {l:List Int} {j:Nat} (h:Up l j) (h0:0<j) (hj:j<l.length) (hlt:gi l j<gi l (par j)):Up (sw l (par j) j) (par j):=by
 have hp:=nM h0;have hpl:par j<l.length:=af;refine⟨fun c c0 cl cn=>?_,fun c c0 cl cp p0=>?_⟩
 ·rw[TI]at cl;have hc:=nM c0;rw[rO hpl hj,rO hpl hj];by_cases e:c=j
  (·subst e;rw[if_neg af,if_pos rfl,if_pos rfl];omega);rw[if_neg e,if_neg cn];by_cases e2:par c=j
  (·rw[if_pos e2];exact h.2 c c0 cl e2 h0);rw[if_neg e2];by_cases e3:par c=par j
  (·rw[if_pos e3];have:=h.1 c c0 cl e;rw[e3]at this;omega);rw[if_neg e3];exact h.1 c c0 cl e
 rw[TI]at cl;have hpp:=nM p0;have h2:=h.1 (par j) p0 hpl af;rw[rO hpl hj,rO hpl hj,if_neg (show par (par j)≠j by omega),if_neg (show par (par j)≠par j by omega)];by_cases e:c=j
 (·rw[if_pos e];exact h2);have hc:=nM c0;rw[if_neg e,if_neg af];have:=h.1 c c0 cl e;rw[cp]at this;omega
theorem TJ {l:List Int} {j:Nat} (h:Up l j) (h0:j=0∨gi l (par j)≤gi l j):Hn l l.length:=fun c c0 cl=>by
 by_cases e:c=j
 ·subst e;rcases h0 with h0|h0
  (·omega);exact h0
 exact h.1 c c0 cl e
theorem Xd {l:List Int} (h:Hn l l.length) (x:Int):Up (l++[x]) l.length:=by
 refine⟨fun c c0 cl cn=>?_,fun c c0 cl cp h0=>?_⟩
 ·have hc:=nM c0;have hl:c<l.length:=(by simp at cl;omega);have g:∀ k,k<l.length→gi (l++[x]) k=gi l k:=fun k hk=>by
   unfold gi;rw[aam,List.getElem?_append_left hk, ← aam]
  rw[g c hl,g (par c) af];exact h c c0 hl
 have hc:=nM c0;simp at cl;omega
theorem Xe {l:List Int} {n i c:Nat} (h:Dn l n i) (hn:n≤l.length) (c0:0<c) (cn:c<n) (cp:par c=i) (hmin:∀ d,0<d→d<n→par d=i→gi l c≤gi l d) (hlt:gi l c<gi l i):Dn (sw l i c) n c:=by
 have hic:i<c:=(by rw[← cp];exact nM c0);have hil:i<l.length:=af;have cM:c<l.length:=af;refine⟨fun d d0 dn dp=>?_,fun d d0 dn dp _=>?_⟩
 ·have hd:=nM d0;rw[rO hil cM,rO hil cM,if_neg dp];by_cases e:d=c
  (·subst e;rw[if_pos rfl,if_pos cp];omega);rw[if_neg e];by_cases e2:d=i
  (·subst e2;rw[if_pos rfl,if_neg af];exact h.2 c c0 cn cp d0);rw[if_neg e2];by_cases e3:par d=i
  (·rw[if_pos e3];exact hmin d d0 dn e3);rw[if_neg e3];exact h.1 d d0 dn e3
 have hd:=nM d0;rw[rO hil cM,rO hil cM,cp,if_neg af,if_pos rfl,if_neg af,if_neg af];have:=h.1 d d0 dn af;rw[dp]at this;exact this
theorem TK {l:List Int} {n i:Nat} (h:Dn l n i) (hmin:∀ d,0<d→d<n→par d=i→gi l i≤gi l d):Hn l n:=fun c c0 cn=>by
 by_cases e:par c=i
 (·rw[e];exact hmin c c0 cn e);exact h.1 c c0 cn e
theorem dn_pop {l:List Int} {n:Nat} (h:Hn l (n+1)) (hl:l.length=n+1):Dn (sw l 0 n) n 0:=by
 refine⟨fun c c0 cn cp=>?_,fun c c0 cn cp h0=>by omega⟩;have hc:=nM c0;rw[rO af af,rO af af,if_neg af,if_neg af,if_neg af,if_neg af];exact h c c0 af
theorem hn_min {l:List Int} {n:Nat} (h:Hn l n) (c:Nat):c<n→gi l 0≤gi l c:=by
 induction c using Nat.strongRecOn with
 |_ c ih=>
  intro hc;by_cases c0:c=0
  (·rw[c0];exact Int.le_refl _);have:=nM (Nat.pos_of_ne_zero c0);have h1:=ih (par c) this af;have h2:=h c (Nat.pos_of_ne_zero c0) hc;omega
theorem Xf {l:List Int} {n:Nat} (h:Hn l n) (hn:n≤l.length):Hn (l.take n) (l.take n).length:=fun c c0 cl=>by
 have hc:=nM c0;rw[aaq]at cl;have g:∀ k,k<n→gi (l.take n) k=gi l k:=fun k hk=>by
  unfold gi;rw[aam,List.getElem?_take,if_pos hk, ← aam]
 rw[g c af,g (par c) af];exact h c c0 af
end Hp
namespace Kn
open Hp
def Fc (g:List (List Nat)) (i j k:Nat):List Nat:=iy g i k++if((g.getD i []).take j).contains k then[i]else[]
theorem TL (g:List (List Nat)) (i:Nat):Fc g i 0=iy g i:=by funext k;simp[Fc]
theorem JI (g:List (List Nat)) (i k:Nat):iy g (i+1) k=iy g i k++if(g.getD i []).contains k then[i]else[]:=by
 unfold iy;rw[List.range_succ,List.filter_append];congr 1;rw[List.filter_cons];rfl
theorem TM (g:List (List Nat)) (i:Nat):Fc g i (g.getD i []).length=iy g (i+1):=by
 funext k;rw[JI,Fc,List.take_length]
theorem TN {g:List (List Nat)} {i j:Nat} (hn:(g.getD i []).Nodup) (hj:j<(g.getD i []).length):(fun m=>if m=(g.getD i [])[j]then Fc g i j (g.getD i [])[j]++[i]else Fc g i j m)=Fc g i (j+1):=by
 funext m;unfold Fc;generalize g.getD i []=r at hn hj ⊢;have ht:r.take (j+1)=r.take j++[r[j]]:=aaz hj;have hnc:(r.take j).contains r[j]=false:=by
  rw[Bool.eq_false_iff];intro e;rw[List.contains_iff_mem]at e;have hn2:=hn;rw[← List.take_append_drop j r,List.nodup_append]at hn2;exact hn2.2.2 _ e _ (by rw[aah hj];exact List.mem_cons_self) rfl
 rw[ht];by_cases e:m=r[j]
 (·rw[if_pos e,hnc,e];(have h2:(r.take j++[r[j]]).contains r[j]=true:=by rw[List.contains_iff_mem];exact List.mem_append_right _ (aau.2 rfl));rw[h2];simp);rw[if_neg e];have:(r.take j++[r[j]]).contains m=(r.take j).contains m:=by
  rw[Bool.eq_iff_iff,List.contains_iff_mem,List.contains_iff_mem,aar,aau];exact⟨fun h=>h.elim id fun h=>absurd h e,.inl⟩
 rw[this]
theorem JJ (g:List (List Nat)) (i:Nat):gW g (i+1)=gW g i++if(g.getD i []).isEmpty then[i]else[]:=by
 unfold gW;rw[List.range_succ,List.filter_append];congr 1;rw[List.filter_cons];rfl
theorem MJ (g:List (List Nat)) (n:Nat):W8 (gW g n):=(List.pairwise_lt_range (n:=n)).filter _ |>.imp Nat.le_of_lt
def j_ (g:List (List Nat)) (i:Nat):List Int:=(g.take i).map (fun l=>(l.length:Int))++aaw (g.length - i) 0
theorem JK (g:List (List Nat)):j_ g 0=aaw g.length 0:=by simp[j_]
theorem JL (g:List (List Nat)):j_ g g.length=lens g:=by simp[j_,lens]
theorem De {g:List (List Nat)} {i:Nat} (h:i≤g.length):(j_ g i).length=g.length:=by simp[j_];omega
theorem JM {g:List (List Nat)} {i:Nat} (h:i<g.length):(j_ g i).set i (((g.getD i []).length:Nat):Int)=j_ g (i+1):=by
 unfold j_;have hl:((g.take i).map fun l=>(l.length:Int)).length=i:=au;rw[List.set_append_right _ _ af,hl,Nat.sub_self,show g.length - i=(g.length - (i+1))+1 by omega,List.replicate_succ,List.set_cons_zero,aaz h,List.map_append];(have e:g.getD i []=g[i]:=by rw[aam,List.getElem?_eq_getElem h];rfl);rw[e];simp
theorem P5 {qb:List Int} {m i:Nat} {q:List Nat} (h:Hn qb m) (hl:qb.length=m) (hp:qb.Perm ((i :: q).map fun n:Nat=>(n:Int))) (ha:W8 (i :: q)):gi qb 0=(i:Int):=by
 have hm:0<m:=(by rw[← hl,hp.length_eq];simp);have h0:gi qb 0∈(i :: q).map fun n:Nat=>(n:Int):=hp.mem_iff.1 (by rw[JH af];exact aan _);obtain⟨j,hj,e⟩:=aat.1 h0;have hij:i≤j:=by
  rcases aas.1 hj with rfl|hj
  (·exact aaB _);exact(List.pairwise_cons.1 ha).1 j hj
 have hi:(i:Int)∈qb:=hp.mem_iff.2 ai;obtain⟨k,hk,e2⟩:=List.getElem_of_mem hi;have:=hn_min h k af;rw[JH hk,e2]at this;omega
theorem MK {us:List Nat} {s:St} {j:Nat} (hj:j<us.length):gO (us.take (j+1)) s=less (gO (us.take j) s) us[j]:=by
 unfold gO;rw[aaz hj,List.foldl_append];rfl
theorem TP {s:St} {k:Nat} (h:W8 s.2):W8 (less s k).2:=by
 unfold less;simp only;split
 (·exact Ow k _ h);exact h
theorem P6 (us:List Nat):∀ {s:St},W8 s.2→W8 (gO us s).2:=by
 induction us with
 |nil=>intro s h;exact h
 |cons k us ih=>intro s h;exact ih (s:=less s k) (TP h)
theorem gV {l:List Int} {k j:Nat} (h:k<l.length) (z:Int):(l.set k z).getD j 0=if j=k then z else l.getD j 0:=by
 rw[aam,List.getElem?_set];by_cases e:k=j
 (·subst e;simp[h]);rw[if_neg e,if_neg (fun q=>e q.symm), ← aam]
theorem Fe (us:List Nat):∀ {s:St} {a b:Int},(∀ k∈us,k<s.1.length)→(∀ k,a≤s.1.getD k 0∧s.1.getD k 0≤b)→∀ k,a - us.length≤(gO us s).1.getD k 0∧(gO us s).1.getD k 0≤b:=by
 induction us with
 |nil=>intro s a b _ h k;have:=h k;simpa [gO]using this
 |cons j us ih=>
  intro s a b hk h k;have hj:=hk j ai;have:=ih (s:=less s j) (a:=a - 1) (b:=b) (fun m hm=>by rw[wT];exact hk m (by simp[hm])) (fun m=>by
   have h1:=h m;have h2:=h j;show a - 1≤(s.1.set j (s.1.getD j 0 - 1)).getD m 0∧(s.1.set j (s.1.getD j 0 - 1)).getD m 0≤b;rw[gV hj];split<;>omega) k
  have e:gO (j :: us) s=gO us (less s j):=rfl;rw[e,List.length_cons];omega
theorem P7 (us:List Nat):∀ {s:St} {n:Nat},(∀ k∈us,k<n)→(∀ k∈s.2,k<n)→∀ k∈(gO us s).2,k<n:=by
 induction us with
 |nil=>intro s n _ h;exact h
 |cons j us ih=>
  intro s n h1 h2;refine ih (s:=less s j) (fun k hk=>h1 k (by simp[hk])) fun k hk=>?_;unfold less at hk;simp only at hk;split at hk
  ·rcases GG.1 hk with rfl|hk
   (·exact h1 _ ai);exact h2 k hk
  exact h2 k hk
theorem ML (g:List (List Nat)) (n k:Nat):(iy g n k).length≤n:=by
 have:=List.length_filter_le (fun i=>(g.getD i []).contains k) (aav n)
 rwa [List.length_range]at this
theorem P8 {g:List (List Nat)} {n k i:Nat} (h:i∈iy g n k):i<n:=List.mem_range.1 (List.mem_filter.1 h).1
theorem Df {g:List (List Nat)} {k:Nat} (h:k<g.length):(nA g).getD k []=iy g g.length k:=by
 unfold nA;rw[sW,if_pos h]
theorem Dg {g:List (List Nat)} (h:∀ i,(g.getD i []).length≤100) (k:Nat):0≤(lens g).getD k 0∧(lens g).getD k 0≤100:=by
 unfold lens;rw[aam,List.getElem?_map];cases hk:g[k]? with
 |none=>simp
 |some l=>
  have:=h k;rw[aam,hk]at this;simp only[Option.map_some,Option.getD_some]at this ⊢;omega
theorem Ff {U:List (List Nat)} {f i:Nat} {L:List Int} {q:List Nat}:Ef U (f+1) (L,i :: q)=i :: Ef U f (gO (U.getD i []) (L,q)):=rfl
theorem TQ {U:List (List Nat)} {f:Nat} {L:List Int}:Ef U f (L,[])=[]:=by cases f<;>rfl
end Kn
namespace Kn
theorem GK {s:St} {k:Nat} (h:k<s.1.length) (j:Nat):(less s k).1.getD j 0=s.1.getD j 0 - if j=k then 1 else 0:=by
 unfold less;rw[gV h];by_cases e:j=k
 (·subst e;simp);rw[if_neg e,if_neg e];omega
theorem JN {s:St} {k:Nat} (h:k<s.1.length) (x:Nat):x∈(less s k).2↔x∈s.2∨(x=k∧s.1.getD k 0=1):=by
 unfold less;simp only[mU h];by_cases e:s.1.getD k 0=1
 ·rw[if_pos af,GG];constructor
  ·rintro(rfl|h1)
   (·exact .inr ⟨rfl,e⟩);exact .inl h1
  rintro(h1|⟨rfl,_⟩)
  (·exact .inr h1);exact .inl rfl
 rw[if_neg af];constructor
 (·exact .inl);rintro(h1|⟨_,h2⟩)
 (·exact h1);exact absurd h2 e
theorem MM {s:St} {k:Nat} (h:k<s.1.length) (hn:s.2.Nodup) (hk:s.1.getD k 0=1→k∉s.2):(less s k).2.Nodup:=by
 unfold less;simp only[mU h];by_cases e:s.1.getD k 0=1
 (·rw[if_pos af];exact(sV k s.2).nodup_iff.2 (List.nodup_cons.2 ⟨hk e,hn⟩));rw[if_neg af];exact hn
theorem Fg:∀ (us:List Nat) (s:St),us.Nodup→(∀ k∈us,k<s.1.length)→
 (∀ j,(gO us s).1.getD j 0=s.1.getD j 0 - if j∈us then 1 else 0)∧(∀ x,x∈(gO us s).2↔x∈s.2∨(x∈us∧s.1.getD x 0=1))∧(s.2.Nodup→(∀ k∈us,s.1.getD k 0=1→k∉s.2)→(gO us s).2.Nodup)
 |[],s,_,_=>⟨fun j=>by simp[gO],fun x=>by simp[gO],fun h _=>h⟩
 |k :: us,s,hn,hk=>by
  have h1:=List.nodup_cons.1 hn;have hk0:=hk k (.head _);obtain⟨r1,r2,r3⟩:=Fg us (less s k) h1.2 (fun j hj=>by rw[wT];exact hk j (.tail _ hj));refine⟨fun j=>?_,fun x=>?_,fun hq hr=>?_⟩
  ·show(gO us (less s k)).1.getD j 0=_;rw[r1,GK hk0];by_cases e:j=k
   (·subst e;rw[if_pos rfl,if_neg h1.1,if_pos (List.mem_cons_self)];omega);rw[if_neg e];by_cases e2:j∈us
   (·rw[if_pos e2,if_pos (List.mem_cons_of_mem _ e2)];omega);rw[if_neg e2,if_neg (fun h=>by rcases aas.1 h with h|h;exact e h;exact e2 h)];omega
  ·show x∈(gO us (less s k)).2↔_;rw[r2,JN hk0,GK hk0];constructor
   ·rintro((h|⟨rfl,h⟩)|⟨h,h2⟩)
    (·exact .inl h)
    (·exact .inr ⟨.head _,h⟩);rw[if_neg (fun e:x=k=>h1.1 (e▸h))]at h2;exact .inr ⟨.tail _ h,by omega⟩
   rintro(h|⟨h,h2⟩)
   (·exact .inl (.inl h));rcases aas.1 h with rfl|h
   (·exact .inl (.inr ⟨rfl,h2⟩));refine .inr ⟨h,?_⟩;rw[if_neg (fun e:x=k=>h1.1 (e▸h))];omega
  refine r3 (MM hk0 hq (hr k (.head _))) fun j hj h2 h3=>?_;have hjk:j≠k:=fun e=>h1.1 (e▸hj);rw[GK hk0,if_neg hjk]at h2;rcases(JN hk0 j).1 h3 with h4|⟨h4,_⟩
  (·exact hr j (.tail _ hj) af h4);exact hjk h4
def cnt (g:List (List Nat)) (done:List Nat) (i:Nat):Nat:=((g.getD i []).filter fun k=> !done.contains k).length
theorem td {g:List (List Nat)} {done:List Nat} {i:Nat}:cnt g done i=0↔∀ k∈g.getD i [],k∈done:=by
 unfold cnt;rw[List.length_eq_zero_iff,List.filter_eq_nil_iff];simp
theorem filter_one {l done:List Nat} {i:Nat} (hl:l.Nodup) (hi:i∉done):(l.filter fun k=> !done.contains k).length=(l.filter fun k=> !(done++[i]).contains k).length+if i∈l then 1 else 0:=by
 induction l with
 |nil=>simp
 |cons a l ih=>
  have h1:=List.nodup_cons.1 hl;have ih:=ih h1.2;rw[List.filter_cons,List.filter_cons];by_cases ea:a=i
  (·subst ea;have e1:(!done.contains a)=true:=aX;have e2:(!(done++[a]).contains a)=false:=ai;rw[e1,e2,if_pos rfl,if_neg ak,if_pos (List.mem_cons_self),List.length_cons];rw[if_neg h1.1]at ih;omega);have e3:(i∈a :: l)↔i∈l:=⟨fun h=>(aas.1 h).resolve_left fun e=>ea e.symm,fun h=> .tail _ h⟩;by_cases ed:a∈done
  (·have e1:(!done.contains a)=false:=(by simpa using ed);have e2:(!(done++[i]).contains a)=false:=(by simp[ed]);rw[e1,e2,if_neg ak,if_neg ak];simp only[e3];exact ih);have e1:(!done.contains a)=true:=(by simpa using ed);have e2:(!(done++[i]).contains a)=true:=(by simp[ed,ea]);rw[e1,e2,if_pos rfl,if_pos rfl,List.length_cons,List.length_cons];simp only[e3];omega
theorem JO {g:List (List Nat)} {done:List Nat} {i:Nat} (j:Nat) (hl:(g.getD j []).Nodup) (hi:i∉done):cnt g done j=cnt g (done++[i]) j+if i∈g.getD j []then 1 else 0:=filter_one hl hi
structure KI (g:List (List Nat)) (done:List Nat) (s:St):Prop where
 len:s.1.length=g.length
 left:∀ i,i<g.length→s.1.getD i 0=(cnt g done i:Int)
 ready:∀ i,i∈s.2↔i<g.length∧i∉done∧cnt g done i=0
 nodup:s.2.Nodup
 once:done.Nodup
 bZ:∀ i∈done,i<g.length
 behind:∀ t i,done[t]? =some i→∀ k∈g.getD i [],k∈done.take t
theorem qH {g:List (List Nat)} {i k:Nat} (hi:i<g.length):k∈(nA g).getD i []↔k<g.length∧i∈g.getD k []:=by
 rw[Df hi];unfold iy;rw[List.mem_filter,List.mem_range];simp
theorem JP {g:List (List Nat)} {i:Nat} (hi:i<g.length):((nA g).getD i []).Nodup:=by
 rw[Df hi];exact List.Pairwise.filter _ List.nodup_range
theorem KI.step {g:List (List Nat)} {done:List Nat} {l:List Int} {i:Nat} {q:List Nat} (hg:∀ i,(g.getD i []).Nodup) (I:KI g done (l,i :: q)):KI g (done++[i]) (gO ((nA g).getD i []) (l,q)):=by
 obtain⟨hi,Ei,hic⟩:=(I.ready i).1 (.head _);have hnq:=List.nodup_cons.1 I.nodup;have hlen:l.length=g.length:=I.len;obtain⟨r1,r2,r3⟩:=Fg ((nA g).getD i []) (l,q) (JP hi) (fun k hk=>by rw[show(l,q).1.length=g.length from hlen];exact((qH hi).1 hk).1);have hc:∀ j,j<g.length→l.getD j 0=(cnt g (done++[i]) j:Int)+if i∈g.getD j []then 1 else 0:=fun j hj=>by
  have h1:l.getD j 0=(cnt g done j:Int):=I.left j hj;have h2:=JO (g:=g) (done:=done) (i:=i) j (hg j) Ei;rw[h1,h2];split<;>simp
 refine⟨by rw[yE];exact hlen,fun j hj=>?_,fun x=>?_,?_,?_,?_,?_⟩
 ·rw[r1];show l.getD j 0 - _=_;rw[hc j hj];by_cases e:i∈g.getD j []
  (·rw[if_pos e,if_pos ((qH hi).2 ⟨hj,e⟩)];omega);rw[if_neg e,if_neg (fun h=>e ((qH hi).1 h).2)];omega
 ·rw[r2];show x∈q∨_∧l.getD x 0=1↔_;constructor
  ·rintro(h|⟨h,h2⟩)
   ·obtain⟨h3,h4,h5⟩:=(I.ready x).1 (.tail _ h);refine⟨h3,fun hm=>?_,?_⟩
    ·rcases aar.1 hm with hm|hm
     (·exact h4 hm);rw[aau.1 hm]at h;exact hnq.1 h
    rw[td]at h5 ⊢;exact fun k hk=>List.mem_append_left _ (h5 k hk)
   obtain⟨h3,h4⟩:=(qH hi).1 h;have h5:=hc x h3;rw[h2,if_pos h4]at h5;refine⟨h3,fun hm=>?_,by omega⟩;rcases aar.1 hm with hm|hm
   (·obtain⟨t,ht⟩:=List.getElem?_of_mem hm;exact Ei (List.take_subset _ _ (I.behind t x ht i h4)));rw[aau.1 hm]at h4;exact Ei (td.1 hic i h4)
  rintro⟨h3,h4,h5⟩;have h6:=hc x h3;by_cases e:i∈g.getD x []
  (·right;rw[if_pos e,h5]at h6;exact⟨(qH hi).2 ⟨h3,e⟩,by omega⟩);left;have h7:=JO (g:=g) (done:=done) (i:=i) x (hg x) Ei;rw[if_neg e,h5]at h7;have h8:=(I.ready x).2 ⟨h3,fun h=>h4 (List.mem_append_left _ h),h7⟩;rcases aas.1 h8 with h9|h9
  (·exact absurd (List.mem_append_right _ (aau.2 h9)) h4);exact h9
 (·refine r3 hnq.2 fun k hk h1 h2=>?_;have h3:l.getD k 0=1:=h1;obtain⟨h4,h5,h6⟩:=(I.ready k).1 (.tail _ h2);have h7:l.getD k 0=(cnt g done k:Int):=I.left k h4;rw[h6]at h7;omega)
 (·exact List.nodup_append.2 ⟨I.once,by simp,fun a ha b hb=>by rw[aau.1 hb];rintro rfl;exact Ei ha⟩)
 ·intro x hx;rcases aar.1 hx with hx|hx
  (·exact I.bZ x hx);rw[aau.1 hx];exact hi
 intro t x ht k hk;by_cases h:t<done.length
 (·rw[List.getElem?_append_left h]at ht;have:=I.behind t x ht k hk;rw[List.take_append_of_le_length af];exact this);have h2:t=done.length:=by
  have:=(List.getElem?_eq_some_iff.1 ht).1;simp at this;omega
 subst h2;rw[List.getElem?_append_right aac,Nat.sub_self]at ht;injection ht with ht;subst ht;rw[List.take_append_of_le_length aac,List.take_length];exact td.1 hic k hk
theorem JQ {g:List (List Nat)} (hg:∀ i,(g.getD i []).Nodup):∀ (f:Nat) (s:St) (done:List Nat),KI g done s→meas s<f→KI g (done++Ef (nA g) f s) (s.1.map fun _=>0,[])∨∃ l,KI g (done++Ef (nA g) f s) (l,[])
 |0,s,done,_,h=>by omega
 |f+1,(l,[]),done,I,h=>by
  right;refine⟨l,?_⟩;show KI g (done++[]) (l,[]);rw[List.append_nil];exact I
 |f+1,(l,i :: q),done,I,h=>by
  have hi:=((I.ready i).1 (.head _)).1;have hm:=uZ (us:=(nA g).getD i []) (s:=(l,q)) (fun k hk=>by rw[show(l,q).1.length=g.length from I.len];exact Tz i k hk);have e:meas (l,i :: q)=meas (l,q)+1:=(by simp[meas];omega);have h2:=JQ hg f (gO ((nA g).getD i []) (l,q)) (done++[i]) (I.step hg) af;rw[Ff];rw[List.append_assoc]at h2;rcases h2 with h2|h2
  ·right;exact⟨_,⟨by simpa using h2.len,fun j hj=>by
    have:=h2.left j hj;exact this,h2.ready,h2.nodup,h2.once,h2.bZ,h2.behind⟩⟩
  right;exact h2
theorem P9 {g:List (List Nat)}:KI g [] (lens g,gW g g.length):=by
 refine⟨C9 g,fun i hi=>?_,fun i=>?_,?_,by simp,by simp,fun t i h=>by simp at h⟩
 (·unfold lens cnt;rw[aam,List.getElem?_map,List.getElem?_eq_getElem hi,aam,List.getElem?_eq_getElem hi];have e:(g[i].filter fun k=> !([]:List Nat).contains k)=g[i]:=List.filter_eq_self.2 fun a _=>rfl;show((g[i].length:Nat):Int)=(((g[i].filter fun k=> !([]:List Nat).contains k).length:Nat):Int);rw[e])
 ·unfold gW;rw[List.mem_filter,List.mem_range,td];simp only[List.isEmpty_iff,List.not_mem_nil,not_false_eq_true,true_and];refine and_congr_right fun _=>⟨fun h k hk=>absurd hk (by rw[h];simp),fun h=>?_⟩;cases e:g.getD i []with
  |nil=>rfl
  |cons a b=>exact absurd (h a (by rw[e];exact .head _)) ai
 exact List.Pairwise.filter _ List.nodup_range
theorem Fh {g:List (List Nat)} (hg:∀ i,(g.getD i []).Nodup):∃ l,KI g (oN g) (l,[]):=by
 have:=JQ hg (2*g.length+1) _ [] P9 (by have:=C_ g;omega);rw[List.nil_append]at this;rcases this with h|h
 (·exact⟨_,h⟩);exact h
theorem MN {g:List (List Nat)} (hg:∀ i,(g.getD i []).Nodup) {l:List Nat} (h:jF g=some l):l.Nodup∧l.length=g.length∧(∀ i,i∈l↔i<g.length)∧∀ t i,l[t]? =some i→∀ k∈g.getD i [],k∈l.take t:=by
 unfold jF at h;split at h
 (·cases h);next hl=>
 injection h with h;obtain⟨x,I⟩:=Fh hg;rw[h]at I hl;have hle:l.length≤g.length:=by
  have:=List.Nodup.length_le_of_subset (l₁:=l) (l₂:=aav g.length) I.once fun y hy=>List.mem_range.2 (I.bZ y hy);simpa using this
 refine⟨I.once,by omega,fun i=>⟨I.bZ i,fun hi=>?_⟩,I.behind⟩;by_cases hm:i∈l
 (·exact hm);exfalso;have:=List.Nodup.length_le_of_subset (l₁:=i :: l) (l₂:=aav g.length) (List.nodup_cons.2 ⟨hm,I.once⟩) fun y hy=>by
  rcases aas.1 hy with rfl|hy
  (·exact List.mem_range.2 hi);exact List.mem_range.2 (I.bZ y hy)
 simp at this;omega
end Kn
namespace Go.Proofs.YtfppbjfnllhgcaaGreat
section
open Go Go.RowKit Go.Proofs Hp
section
abbrev ints (l:List Int):List Value:=l.map fun n=>bU n
structure jO (p B:Nat) (U:Nat→Prop) (A:Option Addr) (n c:Nat) (l:List Int) (w:World):Prop where
 blk:cN w p 107 [bW A n c]
 own:w.ownsRow B 3 1 (bW A n c) n (ints l)
 len:l.length=n
 low:B≤p
 o:¬U p
 P_:∀ g,(bW A n c).ownBlock=some g→U g
section
variable {p B:Nat} {U U':Nat→Prop} {A:Option Addr} {n c:Nat} {l:List Int} {w w':World}
theorem jO.sQ (h:jO p B U A n c l w):p<w.heap.size:=h.blk.lt
theorem jO.keep (h:jO p B U A n c l w) (hk:cB (fun b=>b=p∨U b) w w'):jO p B U A n c l w':=by
 refine⟨(hk.2 p h.sQ (.inl rfl)).trans h.blk,?_,h.len,h.low,h.o,h.P_⟩;obtain⟨h1,h2⟩:=h.own;refine⟨h1,?_⟩;rcases h2 with q|⟨g,cap,cur,e,hB,hb,rest⟩
 (·exact .inl q);refine .inr ⟨g,cap,cur,e,hB,?_,rest⟩;have hg:U g:=h.P_ g (by rw[e];rfl);exact(hk.2 g (by
  rcases Nat.lt_or_ge g w with h|h
  (·exact h);rw[Array.getElem?_eq_none h]at hb;cases hb) (.inr hg)).trans hb
theorem jO.mono (h:jO p B U A n c l w) (hs:∀ b,b<w.heap.size→U b→U' b) (hp:¬U' p):jO p B U' A n c l w:=
 ⟨h.blk,h.own,h.len,h.low,hp,fun g hg=>hs g (h.own.lt g hg).2 (h.P_ g hg)⟩
theorem jO.drewN (h:jO p B U A n c l w) (q:Nat):jO p B U A n c l (w.drewN q):=⟨h.blk,h.own,h.len,h.low,h.o,h.P_⟩
theorem jO.row (h:jO p B U A n c l w) (h0:0<n):∃ g,A=bY g 0∧B≤g∧g<w.heap.size∧U g∧g≠p∧(∀ i,i<n→b_ w g i (bU (gi l i)))∧∀ i,w.frozen? (bY g i)=false:=by
 obtain⟨g,cap,e,hB,hlt⟩:=h.own.form h0;injection e with e1 e2 e3;subst e1 e3;have hU:=h.P_ g rfl;refine⟨g,rfl,hB,hlt,hU,fun e=>h.o (e▸hU),fun i hi=>?_,fun i=>h.own.frozenAt i⟩;rw[h.own.cellAt i af,List.getElem?_map,gi_lt (by rw[h.len];exact hi)];rfl
end
theorem m_len (k p:Nat) (w:World):Sem.run prog (method (k+1) 106 (.pointer (bY p 0)) "Len") w=Sem.run prog (loadVar 107 (bY p 0)>>=fun r=>pure (46,r)) w:=by kernel_rfl
section
variable {p:Nat} {w:World} {v:Value}
theorem Fi (k:Nat) (h:b_ w p 0 v):Sem.run prog (method (k+1) 106 (.pointer (bY p 0)) "Len") w= .ok (46,v) w:=by
 rw[m_len k];simp[go_sem,h]
theorem m_less (k p:Nat) (w:World):Sem.run prog (method (k+1) 106 (.pointer (bY p 0)) "Less") w=Sem.run prog (loadVar 107 (bY p 0)>>=fun r=>pure (337,r)) w:=by kernel_rfl
theorem vk (k:Nat) (h:b_ w p 0 v):Sem.run prog (method (k+1) 106 (.pointer (bY p 0)) "Less") w= .ok (337,v) w:=by
 rw[m_less k];simp[go_sem,h]
theorem m_swap (k p:Nat) (w:World):Sem.run prog (method (k+1) 106 (.pointer (bY p 0)) "Swap") w=Sem.run prog (loadVar 107 (bY p 0)>>=fun r=>pure (340,r)) w:=by kernel_rfl
theorem vn (k:Nat) (h:b_ w p 0 v):Sem.run prog (method (k+1) 106 (.pointer (bY p 0)) "Swap") w= .ok (340,v) w:=by
 rw[m_swap k];simp[go_sem,h]
theorem MO (k:Nat) (w:World) (p:Nat):Sem.run prog (method (k+1) 106 (.pointer (bY p 0)) "Push") w= .ok (339,.pointer (bY p 0)) w:=by kernel_rfl
theorem Qa (k:Nat) (w:World) (p:Nat):Sem.run prog (method (k+1) 106 (.pointer (bY p 0)) "Pop") w= .ok (338,.pointer (bY p 0)) w:=by kernel_rfl
end
theorem Dh:∀ args w,(callFunc 46 args).run prog w= .ok (.enter 46 args) w:=enters_of func46 ah rfl
theorem Ap:∀ args w,(callFunc 337 args).run prog w= .ok (.enter 337 args) w:=enters_of func337 ah rfl
theorem th:∀ args w,(callFunc 340 args).run prog w= .ok (.enter 340 args) w:=enters_of func340 ah rfl
theorem JR:∀ args w,(callFunc 339 args).run prog w= .ok (.enter 339 args) w:=enters_of func339 ah rfl
theorem MP:∀ args w,(callFunc 338 args).run prog w= .ok (.enter 338 args) w:=enters_of func338 ah rfl
theorem MQ (A:Option Addr) (n c:Nat) (w:World):Calls prog 46 #[bW A n c] w fun e w'=>e= .returned (bU n)∧w=w':=by
 go_enter func46,ntmps46;go_wp2;go_ret;exact⟨rfl,rfl⟩
theorem GL (g c n:Nat) (W:World) (x y:Int) (i j:Nat) (hi:i<n) (hj:j<n) (hn:n≤1000000) (ci:b_ W g i (bU x)) (cj:b_ W g j (bU y)):Calls prog 337 #[bW (bY g 0) n c,bU i,bU j] W fun e w'=>e= .returned (.bool (decide (x<y)))∧∃ q,w'=W.drewN q:=by
 go_enter func337,ntmps337;go_wp2;go_quiet (fail);go_wp2;go_ret;exact⟨rfl,nq,rfl⟩
theorem GM (g c n:Nat) (W:World) (x y:Int) (i j:Nat) (hi:i<n) (hj:j<n) (hn:n≤1000000) (ci:b_ W g i (bU x)) (cj:b_ W g j (bU y)) (fi:∀ i,W.frozen? (bY g i)=false):Calls prog 340 #[bW (bY g 0) n c,bU i,bU j] W fun e w'=>e= .returned (.tuple #[])∧∃ q,w'=((W.setCell (bY g i) (bU y)).setCell (bY g j) (bU x)).drewN q:=by
 obtain⟨v',hy'⟩:=cell?_setCell_some (w:=W) (p:=bY g i) (x:= .int .i64 y) (q:=bY g j) cj;go_enter func340,ntmps340;go_wp2;go_region;(all_goals (try go_wp2));(all_goals go_end0);(all_goals exact⟨rfl,1,rfl⟩)
theorem uG {o:Oper} {a:Act} {w:World} {K:Act→World→Prop} {Q:Exit→Act→World→Prop} (s x:Operand) (tt:TypeId) (ho:o.op= .call {callee:= .builtin .append,args:=#[s,x],argTypes:=#[tt,tt]}) (ht:Tryz.prog.underlying tt=some (.slice 3)) {B:Nat} {v:Value} {n:Nat} {l:List Int} (hO:w.ownsRow B 3 1 v n (ints l)) (hs:a.eval s=v) {g c:Nat} {y:Int} (hx:a.eval x=bW (bY g 0) 1 c) (hy:b_ w g 0 (bU y)) (hn:n≤100000000000) (hB:B≤w.heap.size) (hK:∀ A' c' w',w'.ownsRow B 3 1 (bW A' (n+1) c') (n+1) (ints (l++[y]))→w.grownBy w' v.ownBlock→((bW A' (n+1) c').ownBlock=v.ownBlock∨(bW A' (n+1) c').ownBlock=some w.heap.size)→K (a.put o.dst (bW A' (n+1) c')) w'):Oper.wp prog o a w K Q:=by
 obtain⟨i0,Bo,hz0,hz1,hz2⟩:=info_parts wB;refine pV w s x tt ho B 3 i0 (bU 0) 1 8 ht Bo hz0 hz1 hz2 rfl ak v n (ints l) hs hO w (bY g 0) 1 c [bU y] hx ⟨rfl,fun _=>⟨_,rfl,World.block_lt_of_cell? w _ hy,fun j u hu=>?_⟩⟩ (fun u hu=>by rw[aau.1 hu];rfl) aH af hB fun v' w' h1 h2 h3=>?_
 (·(have hj:j=0:=by have:=(List.getElem?_eq_some_iff.1 hu).1;simpa using this);subst hj;have e:bU y=u:=(by simpa using hu);subst e;exact hy);obtain⟨A',c',e,_,_⟩:=iK h1;subst e;exact hK A' c' w' (by simpa [ints]using h1) h2 h3
theorem lT {ops:Array Oper} {rest:List Oper} {o:Oper} {a:Act} {w:World} {Q:Exit→Act→World→Prop} (hgd:o.guard=none) (s x:Operand) (tt:TypeId)
 (ho:o.op= .call {callee:= .builtin .append,args:=#[s,x],argTypes:=#[tt,tt]}) (ht:Tryz.prog.underlying tt=some (.slice 3)) {B:Nat} {v:Value} {n:Nat} {l:List Int} (hO:w.ownsRow B 3 1 v n (ints l)) (hs:a.eval s=v)
 {g c:Nat} {y:Int} (hx:a.eval x=bW (bY g 0) 1 c) (hy:b_ w g 0 (bU y)) (hn:n≤100000000000) (hB:B≤w.heap.size)
 (hK:∀ A' c' w',w'.ownsRow B 3 1 (bW A' (n+1) c') (n+1) (ints (l++[y]))→w.grownBy w' v.ownBlock→((bW A' (n+1) c').ownBlock=v.ownBlock∨(bW A' (n+1) c').ownBlock=some w.heap.size)→wpList prog ops Q rest (a.put o.dst (bW A' (n+1) c')) w'):wpList prog ops Q (o :: rest) a w:=
 wpList_plain hgd fun _ hKK=>uG s x tt ho ht hO hs hx hy hn hB fun A' c' w' h1 h2 h3=>hKK _ _ (hK A' c' w' h1 h2 h3)
theorem Be {ops:Array Oper} {o:Oper} {a:Act} {w:World} {K:Act→World→Prop} {Q:Exit→Act→World→Prop} {E:Prop} (hgd:o.guard=none) (s x:Operand) (tt:TypeId) (ho:o.op= .call {callee:= .builtin .append,args:=#[s,x],argTypes:=#[tt,tt]}) (ht:Tryz.prog.underlying tt=some (.slice 3)) {B:Nat} {v:Value} {n:Nat} {l:List Int} (hO:w.ownsRow B 3 1 v n (ints l)) (hs:a.eval s=v) {g c:Nat} {y:Int} (hx:a.eval x=bW (bY g 0) 1 c) (hy:b_ w g 0 (bU y)) (hn:n≤100000000000) (hB:B≤w.heap.size) (hK:∀ A' c' w',w'.ownsRow B 3 1 (bW A' (n+1) c') (n+1) (ints (l++[y]))→w.grownBy w' v.ownBlock→((bW A' (n+1) c').ownBlock=v.ownBlock∨(bW A' (n+1) c').ownBlock=some w.heap.size)→K (a.put o.dst (bW A' (n+1) c')) w'):if Region.wanted o (yielded ops a.tmps)=true then Oper.wp prog o a w K Q else E:=by
 have hw:Region.wanted o (yielded ops a.tmps)=true:=(by simp[Region.wanted,hgd]);rw[if_pos hw];exact uG s x tt ho ht hO hs hx hy hn hB hK
structure Aw (p B:Nat) (U:Nat→Prop) (w w':World):Prop where
 keeps:cB (fun b=>b≠p∧¬U b) w w'
 low:Below B w w'
theorem Aw.refl (p B:Nat) (U:Nat→Prop) (w:World):Aw p B U w w:=⟨cB.refl _ _,aaf _ _⟩
theorem Aw.trans {p B:Nat} {U:Nat→Prop} {a b c:World} (h:Aw p B U a b) (k:Aw p B (fun x=>U x∨a.heap.size≤x) b c):Aw p B U a c:=
 ⟨⟨aaC h.keeps.1 k.keeps.1,fun i hi hs=>(k.keeps.2 i (Nat.lt_of_lt_of_le hi h.keeps.1) ⟨hs.1,fun q=>q.elim hs.2 fun q=>by omega⟩).trans (h.keeps.2 i hi hs)⟩,h.low.trans k.low⟩
theorem Aw.trans' {p B:Nat} {U:Nat→Prop} {a b c:World} (h:Aw p B U a b) (k:Aw p B U b c):Aw p B U a c:=⟨h.keeps.trans k.keeps,h.low.trans k.low⟩
section
variable {p B:Nat} {U:Nat→Prop} {g n c:Nat} {l:List Int} {w:World}
theorem jO.put (h:jO p B U (bY g 0) n c l w) (i:Nat) (z:Int):jO p B U (bY g 0) n c (l.set i z) (w.setCell (bY g i) (bU z))∧Aw p B U w (w.setCell (bY g i) (bU z)):=by
 have hU:=h.P_ g rfl;have hg:=h.own.lt g rfl;have hne:g≠p:=fun e=>h.o (e▸hU);refine⟨⟨(aae w (bY g i) _ p (fun e=>hne e.symm)).trans h.blk,?_,by rw[List.length_set];exact h.len,h.low,h.o,h.P_⟩,⟨by simp[World.setCell],fun b _ q=>aae w (bY g i) _ b (fun e=>q.2 (e▸hU))⟩,(aaf _ _).setCell hg.1 _⟩;have:=(h.own.stored i (bU z)).1;rw[ints,List.map_set];exact this
theorem jO.swap (h:jO p B U (bY g 0) n c l w) (i j q:Nat):jO p B U (bY g 0) n c (sw l i j) (((w.setCell (bY g i) (bU (gi l j))).setCell (bY g j) (bU (gi l i))).drewN q)∧Aw p B U w (((w.setCell (bY g i) (bU (gi l j))).setCell (bY g j) (bU (gi l i))).drewN q):=by
 obtain⟨h1,t1⟩:=h.put i (gi l j);obtain⟨h2,t2⟩:=h1.put j (gi l i);have t3:=t1.trans' t2;exact⟨h2.drewN q,⟨t3.keeps.1,t3.keeps.2⟩,below_drewN t3.low q⟩
end
end
def TR (p B:Nat) (U:Nat→Prop) (w:World) (n:Nat) (P:List Int→Prop) (w':World):Prop:=∃ A c l,jO p B (fun b=>U b∨w.heap.size≤b) A n c l w'∧P l∧Aw p B U w w'
theorem Xg (p B:Nat) (U:Nat→Prop) (A:Option Addr) (n c:Nat) (l:List Int) (x:Int) (w:World) (h:jO p B U A n c l w) (hn:n≤1000000):Calls prog 339 #[.pointer (bY p 0),.iface 3 (bU x)] w fun e w'=>e= .returned (.tuple #[])∧TR p B U w (n+1) (fun l'=>l'=l++[x]) w':=by
 have hB:B≤w.heap.size:=aaC h.low (Nat.le_of_lt h.sQ);have hend:Hid (∀ (A':Option Addr) (c':Nat) (w1 w2:World),w1=(w.alloc (.cells #[bU x] 3)).drew→w2.ownsRow B 3 1 (bW A' (n+1) c') (n+1) (ints (l++[x]))→w1.grownBy w2 (bW A n c).ownBlock→((bW A' (n+1) c').ownBlock=(bW A n c).ownBlock∨(bW A' (n+1) c').ownBlock=some w1.heap.size)→
  TR p B U w (n+1) (fun l'=>l'=l++[x]) (w2.setCell (bY p 0) (bW A' (n+1) c'))):=aa fun A' c' w1 w2 e h1 h2 h3=>by
  have hp:=h.sQ
  have hpU:=h.o
  have s1:w1.heap.size=w.heap.size+1:=by rw[e];exact aaI w _
  have hk1:∀ b,b<w.heap.size→¬U b→w2.heap[b]? =w.heap[b]? :=fun b hb hu=>(h2.block b af (fun q=>hu (h.P_ b q.symm))).trans (by rw[e];exact heap_alloc_old w _ hb)
  have kp:=hk1 p hp hpU
  have hpa:(bW A' (n+1) c').ownBlock≠some p:=fun q=>by
   rcases h3 with h3|h3
   (·rw[q]at h3;exact hpU (h.P_ p h3.symm));rw[q]at h3;injection h3 with h3;omega
  have s2:=h2.size
  refine⟨A',c',l++[x],⟨?_,?_,by rw[aao,h.len];rfl,h.low,fun q=>q.elim hpU af,fun g hg=>?_⟩,rfl,⟨⟨?_,fun b hb q=>?_⟩,?_⟩⟩
  ·
   have hb:cN w2 p 107 [bW A n c]:=kp.trans h.blk;exact hb.eB 0 _
  ·
   refine⟨h1.1,?_⟩;rcases h1.2 with q|⟨g,cap,cur,e1,e2,e3,rest⟩
   (·exact .inl q);refine .inr ⟨g,cap,cur,e1,e2,?_,rest⟩;exact(aae w2 (bY p 0) _ g (fun e5=>hpa (by rw[e1];exact congrArg some e5))).trans e3
  ·
   rcases h3 with h3|h3
   (·exact .inl (h.P_ g (h3▸hg)));right;rw[h3]at hg;injection hg with hg;omega
  ·
   simp[World.setCell];omega
  ·
   exact(aae w2 (bY p 0) _ b q.1).trans (hk1 b hb q.2)
  ·
   (have b1:Below B w w1:=by rw[e];exact((aaf B w).alloc hB _).trans ⟨rfl,rfl,rfl,aaB _,fun _ _=>rfl⟩);exact(b1.grown h2 af fun g hg=>(h.own.lt g hg).1).setCell h.low _
 have HH:=aa h;have hc:b_ w p 0 (bW A n c):=h.blk.cell 0;have hp:=h.sQ;have hpU:=h.o;have yB:(w.alloc (.cells #[bU x] 3)).drew.cell? (bY p 0)=some (bW A n c):=(World.cell?_alloc_lt w _ (bY p 0) hp).trans hc;have hO1:(w.alloc (.cells #[bU x] 3)).drew.ownsRow B 3 1 (bW A n c) n (ints l):=World.ownsRow.alloc (w:=w) h.own _;have hx1:(w.alloc (.cells #[bU x] 3)).drew.cell? (bY w 0)=some (bU x):=cell_of_row _ _ _ _ _ _ (heap_alloc_new w _);have hU:=h.P_;have hs1:(w.alloc (.cells #[bU x] 3)).drew.heap.size=w.heap.size+1:=aaI w _;have hblk:=aa h.blk;clear h;go_enter func339,ntmps339;go_wp2_with fail;refine cV (S:=fun w'=>b_ w' p 0 (bW A n c)) [0,1,4,2,3,8] [(0,false),(1,false),(4,false),(2,false),(3,false),(5,true),(6,true),(7,true),(8,false),(9,true)] ah ah aq rfl ah (hc) ?_;(iterate 5 refine hwr ?_);refine hwt fun K hK=>?_;go_simp;refine hK.o _ _ (hc) ?_;clear hK K;refine hwt fun K hK=>?_;go_simp;refine hK.o _ _ (yB) ?_;clear hK K;refine hwt fun K hK=>?_;refine Be rfl (.tmp 7) (.tmp 10) _ rfl underlying107 (hO1) rfl rfl hx1 af (by rw[hs1];exact Nat.le_succ_of_le hB) ?_;intro A9 c9 w9 g1 g2 g3;have k9:cN w9 p 107 [bW A n c]:=(g2.block p (by rw[hs1];exact Nat.lt_succ_of_lt hp) (fun q=>hpU (hU p q.symm))).trans ((heap_alloc_old w _ hp).trans hblk.o);have y9:=k9.cell 0;have f9:=k9.frozen 0;refine hK.o _ _ (y9) ?_;clear hK K;refine hwr ?_;refine xN fun K hK=>?_;go_simp;refine hK.o _ _ ?_;clear hK K;refine eD ?_;(try go_frame);go_end0;exact⟨rfl,hend.o A9 c9 _ w9 rfl g1 g2 g3⟩
theorem jO.shorter {p B:Nat} {U:Nat→Prop} {A:Option Addr} {n c:Nat} {l:List Int} {w:World} (h:jO p B U A (n+1) c l w):jO p B U A n c (l.take n) (w.setCell (bY p 0) (bW A n c))∧Aw p B U w (w.setCell (bY p 0) (bW A n c)):=by
 (have hg:∀ g,(bW A n c).ownBlock=some g→(bW A (n+1) c).ownBlock=some g:=fun g e=>by cases A<;>exact e);refine⟨⟨h.blk.eB 0 _,?_,by rw[aaq,h.len];omega,h.low,h.o,fun g e=>h.P_ g (hg g e)⟩,⟨by simp[World.setCell],fun b _ q=>aae w (bY p 0) _ b q.1⟩,(aaf _ _).setCell h.low _⟩;obtain⟨h1,h2⟩:=h.own;refine⟨by rw[ints,List.length_map,aaq,h.len];omega,?_⟩;rcases h2 with q|⟨g,cap,cur,e1,e2,e3,e4,e5,e6,e7⟩
 (·exact absurd q.2 af);injection e1 with a1 a2 a3;subst a1 a3;have hne:g≠p:=fun e=>h.o (e▸h.P_ g rfl);refine .inr ⟨g,c,cur,rfl,e2,(aae w (bY p 0) _ g hne).trans e3,by omega,e5,e6,?_⟩;rw[ints,List.map_take];show _=(ints l).take n;rw[← e7,List.take_take,Nat.min_eq_left af,Nat.mul_one]
theorem rd_pop (p B:Nat) (U:Nat→Prop) (A:Option Addr) (n c:Nat) (l:List Int) (w:World) (h:jO p B U A (n+1) c l w) (hn:n≤1000000):Calls prog 338 #[.pointer (bY p 0)] w fun e w'=>e= .returned (.iface 3 (bU (gi l n)))∧jO p B U A n c (l.take n) w'∧Aw p B U w w':=by
 have HS:=aa h.shorter;obtain⟨g,rfl,hB,hlt,hUg,hne,hcell,hfr⟩:=h.row af;have hl:=hcell n af;have hc:=h.blk.cell 0;have hf:=h.blk.frozen 0;have hcap:n+1≤c:=by
  obtain⟨A',c',e,h1,_⟩:=iK h.own;injection e with e1 e2 e3;omega
 clear hcell hfr h;go_enter func338,ntmps338;go_wp2;go_ret;exact⟨rfl,HS.o.1,HS.o.2⟩
theorem Aw.drewN {p B:Nat} {U:Nat→Prop} {w w':World} (h:Aw p B U w w') (q:Nat):Aw p B U w (w'.drewN q):=⟨⟨h.keeps.1,h.keeps.2⟩,below_drewN h.low q⟩
theorem TT (j:Nat):((j:Int) - 1).tdiv 2=((par j:Nat):Int):=by
 cases j with
 |zero=>rfl
 |succ j=>
  rw[show((j+1:Nat):Int) - 1=(j:Int) by omega,show(2:Int)=((2:Nat):Int)from rfl, ← Int.ofNat_tdiv];rfl
theorem hp_up (p B:Nat) (U:Nat→Prop) (A:Option Addr) (n c j0:Nat) (l:List Int) (w:World) (h:jO p B U A n c l w) (hj:j0<n) (hu:Up l j0) (hn:n≤1000000):Calls prog 94 #[.iface 106 (.pointer (bY p 0)),bU j0] w fun e w'=>e= .returned (.tuple #[])∧∃ l',jO p B U A n c l' w'∧l'.Perm l∧Hn l' n∧Aw p B U w w':=by
 obtain⟨g,rfl,_,_,_,_,_,_⟩:=h.row af;have H0:=aa h;have U0:=aa hu;clear h hu;go_enter func94,ntmps94;go_wp2;go_loopw [1] (fun vj wr=>∃ (j:Nat) (l':List Int),vj=bU j∧j<n∧Hid (jO p B U (bY g 0) n c l' wr)∧Hid (Aw p B U w wr)∧Hid (Up l' j)∧Hid (l'.Perm l)) (fun vj _=>(intOf vj).toNat);(case atStart=>exact⟨j0,l,rfl,hj,H0,aa (.refl _ _ _ _),U0,aa (.refl _)⟩);clear H0 U0;obtain⟨j,l',rfl,hj,H,T,HU,E1⟩:=hrel;obtain⟨g',e',_,_,_,_,hcell,hfr⟩:=H.o.row af;injection e' with e';injection e' with e';subst e';have hq:((j:Int) - 1).tdiv 2=((par j:Nat):Int):=TT j;have eL:=Ap;have eS:=th;have hcc:=H.o.blk.cell 0;have mL:Sem.run prog (method 480 106 (.pointer (bY p 0)) "Less") wr=_:=vk _ (w:=wr) (H.o.blk.cell 0);have hpl:par j≤j:=(by unfold par;omega);have mS:∀ q,Sem.run prog (method 480 106 (.pointer (bY p 0)) "Swap") (wr.drewN q)=_:=fun q=>vn _ (w:=wr.drewN q) ((H.o.drewN q).blk.cell 0);go_upto_region 1 with fail;by_cases h0:j=0
 (·have h1:((par j:Nat):Int)=(j:Int):=(by subst h0;rfl);have HE:=aa (TJ HU.o (.inl h0));rw[h1];go_wp2;go_end0;exact⟨rfl,l',H.o,E1.o,by rw[H.o.len]at HE;exact HE.o,T.o⟩);have h1:¬par j=j:=(by unfold par;omega);have h2:¬((par j:Nat):Int)=(j:Int):=af;have hl:=GL g c n wr (gi l' j) (gi l' (par j)) j (par j) hj af hn (hcell j hj) (hcell (par j) af);by_cases hlt:gi l' j<gi l' (par j)
 (·have h3:decide (gi l' j<gi l' (par j))=true:=(by simpa using hlt);rw[h3]at hl;have hs:=fun q=>GM g c n (wr.drewN q) (gi l' (par j)) (gi l' j) (par j) j af hj hn (hcell (par j) af) (hcell j hj) hfr;have HU2:=aa (Xc HU.o af (by rw[H.o.len];exact hj) hlt);have HL:=aa hl;have HSw:=aa hs;have HQ:=aa hq;clear hcell hfr hl hs hq h3;go_wp2_with (first|(go_at_fn 337;refine HL.o.mono ?_;rintro e w' ⟨rfl,q,rfl⟩)|(go_at_fn 340;refine(HSw.o _).mono ?_;rintro e w' ⟨rfl,q2,rfl⟩));go_roundw;(case rel=>have HSW:=(H.o.drewN q).swap (par j) j q2;exact⟨par j,sw l' (par j) j,rfl,by omega,aa HSW.1,aa ((Aw.drewN T.o q).trans' HSW.2),HU2,aa ((GJ (by rw[H.o.len];omega) (by rw[H.o.len];exact hj)).trans E1.o)⟩);(case measure=>simp[intOf];omega));have h3:decide (gi l' j<gi l' (par j))=false:=(by simpa using hlt);rw[h3]at hl;have HE:=aa (TJ HU.o (.inr af));go_wp2_with (go_at_fn 337;refine hl.mono ?_;rintro e w' ⟨rfl,q,rfl⟩);go_end0;exact⟨rfl,l',H.o.drewN q,E1.o,by rw[H.o.len]at HE;exact HE.o,T.o.drewN q⟩
theorem Xh (p B:Nat) (U:Nat→Prop) (A:Option Addr) (n c m:Nat) (l:List Int) (w:World) (h:jO p B U A n c l w) (hm:m≤n) (hd:Dn l m 0) (hn:n≤1000000):Calls prog 95 #[.iface 106 (.pointer (bY p 0)),bU 0,bU m] w fun e w'=>∃ b,e= .returned (.bool b)∧∃ l',jO p B U A n c l' w'∧l'.Perm l∧Hn l' m∧(∀ k,m≤k→gi l' k=gi l k)∧Aw p B U w w':=by
 have H0:=aa h;have D0:=aa hd;clear h hd;go_enter func95,ntmps95;go_wp2;go_loopw [7] (fun vi wr=>∃ (i:Nat) (l':List Int),vi=bU i∧i≤n∧Hid (jO p B U A n c l' wr)∧Hid (Aw p B U w wr)∧Hid (Dn l' m i)∧Hid (l'.Perm l)∧Hid (∀ k,m≤k→gi l' k=gi l k)) (fun vi _=>n - (intOf vi).toNat);(case atStart=>exact⟨0,l,rfl,by omega,H0,aa (.refl _ _ _ _),D0,aa (.refl _),aa fun _ _=>rfl⟩);clear H0 D0;obtain⟨i,l',rfl,hi,H,T,HD,E1,HT⟩:=hrel;obtain⟨c1,hc1⟩:∃ c1,c1=2*i+1:=⟨_,rfl⟩;have hq1:2*(i:Int)+1=(c1:Int):=af;have hc1b:(c1:Int)≤2000001:=af;have E3:=aa hc1;clear hc1;have eL:=Ap;have eS:=th;by_cases Co:c1<m
 ·obtain⟨g,rfl,_,_,_,_,hcell,hfr⟩:=H.o.row af;have hcc:=H.o.blk.cell 0;have mL:Sem.run prog (method 480 106 (.pointer (bY p 0)) "Less") wr=_:=vk _ (w:=wr) (H.o.blk.cell 0);have mLq:∀ q,Sem.run prog (method 480 106 (.pointer (bY p 0)) "Less") (wr.drewN q)=_:=fun q=>vk _ (w:=wr.drewN q) ((H.o.drewN q).blk.cell 0);have mSq:∀ q,Sem.run prog (method 480 106 (.pointer (bY p 0)) "Swap") (wr.drewN q)=_:=fun q=>vn _ (w:=wr.drewN q) ((H.o.drewN q).blk.cell 0);have HL:=aa (fun(q a b:Nat) (ha:a<n) (hb:b<n)=>GL g c n (wr.drewN q) (gi l' a) (gi l' b) a b ha hb hn (hcell a ha) (hcell b hb));have Ej:=aa (fun(a b:Nat) (ha:a<n) (hb:b<n)=>GL g c n wr (gi l' a) (gi l' b) a b ha hb hn (hcell a ha) (hcell b hb));have HS:=aa (fun(q a b:Nat) (ha:a<n) (hb:b<n)=>GM g c n (wr.drewN q) (gi l' a) (gi l' b) a b ha hb hn (hcell a ha) (hcell b hb) hfr |>.mono fun e w' h=>h);clear hcell hfr;have HR:=aa (fun(j:Nat) (hij:i<j) (h1:j<m) (h2:par j=i) (h3:∀ d,0<d→d<m→par d=i→gi l' j≤gi l' d) (h4:gi l' j<gi l' i) (q q2:Nat)=>
   (show jO p B U (bY g 0) n c (sw l' i j) ((((wr.drewN q).setCell (bY g i) (bU (gi l' j))).setCell (bY g j) (bU (gi l' i))).drewN q2)∧Aw p B U w ((((wr.drewN q).setCell (bY g i) (bU (gi l' j))).setCell (bY g j) (bU (gi l' i))).drewN q2)∧Dn (sw l' i j) m j∧(sw l' i j).Perm l∧∀ k,m≤k→gi (sw l' i j) k=gi l k from
    have hi':i<l'.length:=by rw[H.o.len];omega
    have hj':j<l'.length:=by rw[H.o.len];omega
    have HSW:=(H.o.drewN q).swap i j q2
    ⟨HSW.1,(T.o.drewN q).trans' HSW.2,Xe HD.o (by rw[H.o.len];exact hm) af h1 h2 h3 h4,(GJ hi' hj').trans E1.o,fun k hk=>by rw[rO hi' hj',if_neg af,if_neg af];exact HT.o k hk⟩))
  have HN:=aa (fun(j:Nat) (h3:∀ d,0<d→d<m→par d=i→gi l' j≤gi l' d) (h4:¬gi l' j<gi l' i)=>TK HD.o fun d d0 dm dp=>Int.le_trans (Int.not_lt.1 h4) (h3 d d0 dm dp));(have hin:i<n:=by have:=E3.o;omega);(have hi1:i<c1:=by have:=E3.o;omega);have VG:=aa (show par c1=i by have:=E3.o;unfold par;omega);have HP2:=aa (show par (c1+1)=i by have:=E3.o;unfold par;omega);have HK:=aa (fun(d:Nat) (d0:0<d) (dp:par d=i)=>(show d=c1∨d=c1+1 by have:=E3.o;unfold par at dp;omega));obtain⟨c2,hc2⟩:∃ c2,c2=c1+1:=⟨_,rfl⟩;have hq2:(c1:Int)+1=(c2:Int):=af;have hc2b:(c2:Int)≤2000002:=af;rw[← hc2]at HP2;have HK:=aa (show ∀ (d:Nat),0<d→par d=i→d=c1∨d=c2 from hc2▸HK.o);have Oi:=aa hc2;clear hc2;by_cases hlt2:c2<m
  ·(have hi2:i<c2:=by have:=Oi.o;omega);have hl:=Ej.o c2 c1 af af;by_cases hs1:gi l' c2<gi l' c1
   ·have h3:decide (gi l' c2<gi l' c1)=true:=(by simpa using hs1);rw[h3]at hl;have hmin:∀ d,0<d→d<m→par d=i→gi l' c2≤gi l' d:=fun d d0 _ dp=>by
     rcases HK.o d d0 dp with e|e<;>(subst e;omega)
    have hl2:=fun q=>HL.o q c2 i af hin;by_cases hs2:gi l' c2<gi l' i
    (·have h4:decide (gi l' c2<gi l' i)=true:=(by simpa using hs2);rw[h4]at hl2;have hsw:=fun q=>HS.o q i c2 hin af;have wu:=aa (HR.o c2 hi2 hlt2 HP2.o hmin hs2);have HA:=aa hl;have HB:=aa hl2;have HC:=aa hsw;clear hl hl2 hsw h3 h4 hmin;go_wp2_with (first|(go_at_fn 337;with_reducible refine HA.o.mono ?_;rintro e w' ⟨rfl,q,rfl⟩)|(go_at_fn 337;with_reducible refine(HB.o _).mono ?_;rintro e w' ⟨rfl,q1,rfl⟩)|(go_at_fn 340;refine(HC.o _).mono ?_;rintro e w' ⟨rfl,q2,rfl⟩));go_roundw;obtain⟨r1,r2,r3,r4,r5⟩:=wu.o (q+q1) q2;exact⟨c2,_,rfl,by omega,aa r1,aa r2,aa r3,aa r4,aa r5⟩;simp[intOf];omega);have h4:decide (gi l' c2<gi l' i)=false:=(by simpa using hs2);rw[h4]at hl2;have HA:=aa hl;have HB:=aa hl2;have HE:=aa (HN.o c2 hmin hs2);clear hl hl2 h3 h4 hmin;go_wp2_with (first|(go_at_fn 337;with_reducible refine HA.o.mono ?_;rintro e w' ⟨rfl,q,rfl⟩)|(go_at_fn 337;with_reducible refine(HB.o _).mono ?_;rintro e w' ⟨rfl,q1,rfl⟩));go_ret;exact⟨_,rfl,l',H.o.drewN (q+q1),E1.o,HE.o,HT.o,T.o.drewN (q+q1)⟩
   have h3:decide (gi l' c2<gi l' c1)=false:=(by simpa using hs1);rw[h3]at hl;have hmin:∀ d,0<d→d<m→par d=i→gi l' c1≤gi l' d:=fun d d0 _ dp=>by
    rcases HK.o d d0 dp with e|e<;>(subst e;omega)
   have hl2:=fun q=>HL.o q c1 i af hin;by_cases hs2:gi l' c1<gi l' i
   (·have h4:decide (gi l' c1<gi l' i)=true:=(by simpa using hs2);rw[h4]at hl2;have hsw:=fun q=>HS.o q i c1 hin af;have wu:=aa (HR.o c1 hi1 Co VG.o hmin hs2);have HA:=aa hl;have HB:=aa hl2;have HC:=aa hsw;clear hl hl2 hsw h3 h4 hmin;go_wp2_with (first|(go_at_fn 337;with_reducible refine HA.o.mono ?_;rintro e w' ⟨rfl,q,rfl⟩)|(go_at_fn 337;with_reducible refine(HB.o _).mono ?_;rintro e w' ⟨rfl,q1,rfl⟩)|(go_at_fn 340;refine(HC.o _).mono ?_;rintro e w' ⟨rfl,q2,rfl⟩));go_roundw;obtain⟨r1,r2,r3,r4,r5⟩:=wu.o (q+q1) q2;exact⟨c1,_,rfl,by omega,aa r1,aa r2,aa r3,aa r4,aa r5⟩;simp[intOf];omega);have h4:decide (gi l' c1<gi l' i)=false:=(by simpa using hs2);rw[h4]at hl2;have HA:=aa hl;have HB:=aa hl2;have HE:=aa (HN.o c1 hmin hs2);clear hl hl2 h3 h4 hmin;go_wp2_with (first|(go_at_fn 337;with_reducible refine HA.o.mono ?_;rintro e w' ⟨rfl,q,rfl⟩)|(go_at_fn 337;with_reducible refine(HB.o _).mono ?_;rintro e w' ⟨rfl,q1,rfl⟩));go_ret;exact⟨_,rfl,l',H.o.drewN (q+q1),E1.o,HE.o,HT.o,T.o.drewN (q+q1)⟩
  have hmin:∀ d,0<d→d<m→par d=i→gi l' c1≤gi l' d:=fun d d0 dm dp=>by
   rcases HK.o d d0 dp with e|e
   (·subst e;exact Int.le_refl _);omega
  have hl:=Ej.o c1 i af hin;by_cases hs:gi l' c1<gi l' i
  (·have h3:decide (gi l' c1<gi l' i)=true:=(by simpa using hs);rw[h3]at hl;have wu:=aa (HR.o c1 hi1 Co VG.o hmin hs);have hsw:=fun q=>HS.o q i c1 hin af;have HA:=aa hl;have HC:=aa hsw;clear hl hsw h3 hmin;go_wp2_with (first|(go_at_fn 337;with_reducible refine HA.o.mono ?_;rintro e w' ⟨rfl,q,rfl⟩)|(go_at_fn 340;refine(HC.o _).mono ?_;rintro e w' ⟨rfl,q2,rfl⟩));go_roundw;obtain⟨r1,r2,r3,r4,r5⟩:=wu.o q q2;exact⟨c1,_,rfl,by omega,aa r1,aa r2,aa r3,aa r4,aa r5⟩;simp[intOf];omega);have h3:decide (gi l' c1<gi l' i)=false:=(by simpa using hs);rw[h3]at hl;have HA:=aa hl;have HE:=aa (HN.o c1 hmin hs);clear hl h3 hmin;go_wp2_with (go_at_fn 337;with_reducible refine HA.o.mono ?_;rintro e w' ⟨rfl,q,rfl⟩);go_ret;exact⟨_,rfl,l',H.o.drewN q,E1.o,HE.o,HT.o,T.o.drewN q⟩
 have HE:=aa (TK HD.o fun d d0 dm dp=>by have:=E3.o;unfold par at dp;omega);go_wp2;go_ret;exact⟨_,rfl,l',H.o,E1.o,HE.o,HT.o,T.o⟩
def TV (p B:Nat) (U:Nat→Prop) (n:Nat) (l:List Int) (x:Int) (w:World) (e:Ending) (w':World):Prop:=e= .returned (.tuple #[])∧TR p B U w (n+1) (fun l'=>l'.Perm (x :: l)∧Hn l' (n+1)) w'
theorem OB (p B:Nat) (U:Nat→Prop) (A:Option Addr) (n c:Nat) (l:List Int) (x:Int) (w:World) (h:jO p B U A n c l w) (hh:Hn l n) (hn:n+1≤1000000):Calls prog 45 #[.iface 106 (.pointer (bY p 0)),.iface 3 (bU x)] w (TV p B U n l x w):=by
 have HP:=aa (Xg p B U A n c l x w h af);have hL:=h.len;have mP:Sem.run prog (method 480 106 (.pointer (bY p 0)) "Push") w=_:=MO _ w p;have eP:=JR;have eL:=Dh;have HH:=aa hh;have gY:=aa hL;clear h hL hh;go_enter func45,ntmps45;go_wp2_with (first|(go_at_fn 339;refine HP.o.mono ?_;(rintro e w1 ⟨rfl,A1,c1,l1,h1,rfl,t1⟩;have H1:=aa h1;have T1:=aa t1;have mL:Sem.run prog (method 480 106 (.pointer (bY p 0)) "Len") w1=_:=Fi _ (w:=w1) (h1.blk.cell 0);have hup:=aa (hp_up p B _ A1 (n+1) c1 n (l++[x]) w1 h1 af (gY.o▸Xd (gY.o.symm▸HH.o) x) hn);have hc:=aa (MQ A1 (n+1) c1 w1);clear h1 t1))|(go_at_fn 46;refine hc.o.mono ?_;rintro e w2 ⟨rfl,rfl⟩)|(go_at_call 94;refine hup.o.mono ?_;rintro e w3 ⟨rfl,l3,h3,p3,n3,t3⟩));go_end0;exact⟨rfl,A1,c1,l3,h3,⟨p3.trans (List.perm_append_comm.trans (.refl _)),n3⟩,T1.o.trans t3⟩
theorem hp_pop (p B:Nat) (U:Nat→Prop) (A:Option Addr) (n c:Nat) (l:List Int) (w:World) (h:jO p B U A (n+1) c l w) (hh:Hn l (n+1)) (hn:n+1≤1000000):Calls prog 47 #[.iface 106 (.pointer (bY p 0))] w fun e w'=>e= .returned (.iface 3 (bU (gi l 0)))∧∃ l',jO p B U A n c l' w'∧(gi l 0 :: l').Perm l∧Hn l' n∧Aw p B U w w':=by
 obtain⟨g,rfl,_,_,_,_,hcell,hfr⟩:=h.row af;have hl:=h.len;have hcc:=h.blk.cell 0;have mL:Sem.run prog (method 480 106 (.pointer (bY p 0)) "Len") w=_:=Fi _ (w:=w) (h.blk.cell 0);have mS:Sem.run prog (method 480 106 (.pointer (bY p 0)) "Swap") w=_:=vn _ (w:=w) (h.blk.cell 0);have eL:=Dh;have eS:=th;have eP:=MP;have HL:=aa (MQ (bY g 0) (n+1) c w);have HS:=aa (GM g c (n+1) w (gi l 0) (gi l n) 0 n af af hn (hcell 0 af) (hcell n af) hfr);have HH:=aa h;have HD:=aa (dn_pop hh hl);have HT:=aa (rO (l:=l) (i:=0) (k:=n) af af n);have E1:=aa (GJ (l:=l) (i:=0) (k:=n) af af);clear h hcell hfr hl hh;go_enter func47,ntmps47;go_wp2_with (first|(go_at_fn 46;refine HL.o.mono ?_;rintro e w2 ⟨rfl,rfl⟩)|(go_at_fn 340;refine HS.o.mono ?_;(rintro e w2 ⟨rfl,q,rfl⟩;obtain⟨h2,t2⟩:=HH.o.swap 0 n q;generalize ((w.setCell (bY g 0) (bU (gi l n))).setCell (bY g n) (bU (gi l 0))).drewN q=w2 at h2 t2 ⊢;have hdn:=aa (Xh p B U _ (n+1) c n _ w2 h2 af HD.o hn);have T2:=aa t2;clear h2 t2))|(go_at_call 95;refine hdn.o.mono ?_;(rintro e w3 ⟨b3,rfl,l3,h3,p3,n3,k3,t3⟩;have mP:Sem.run prog (method 480 106 (.pointer (bY p 0)) "Pop") w3=_:=Qa _ w3 p;have hpo:=aa (rd_pop p B U _ n c l3 w3 h3 af);have T3:=aa t3;have L3:=aa h3.len;clear h3 t3))|(go_at_fn 338;refine hpo.o.mono ?_;rintro e w4 ⟨rfl,h4,t4⟩));(have e5:gi (sw l 0 n) n=gi l 0:=by have:=HT.o;simpa using this);have e4:gi l3 n=gi l 0:=(k3 n aac).trans e5;rw[e5];go_ret;refine⟨rfl,l3.take n,h4,?_,?_,(T2.o.trans' T3.o).trans' t4⟩
 ·have hsp:l3=l3.take n++[gi l 0]:=by
   rw[← e4,JH (by rw[L3.o];omega)];have:=List.take_append_drop n l3;rw[aah (by rw[L3.o];omega),List.drop_eq_nil_of_le (by rw[L3.o];omega)]at this;exact this.symm
  have:=(p3.trans E1.o);rw[hsp]at this;exact(List.perm_append_comm (l₁:=l3.take n) (l₂:=[gi l 0])).symm.trans this
 have:=Xf n3 (by rw[L3.o];omega);rw[aaq,L3.o,Nat.min_eq_left af]at this;exact this
end
section
open Go Go.RowKit Go.Proofs Sh
section
def qI (k T B:Nat) (w:World) (v:Value) (n:Nat) (E:Nat→List Value→Prop):Prop:=
 ∃ css:List (List Value),css.length=n∧w.ownsRow B T k v n css.flatten∧(∀ cs∈css,cs.length=k)∧∀ (j:Nat) cs,css[j]? =some cs→E j cs
section
variable {k T B n:Nat} {w w':World} {v:Value} {E E':Nat→List Value→Prop}
theorem qI.lt (h:qI k T B w v n E) (g:Nat) (hg:v.ownBlock=some g):B≤g∧g<w.heap.size:=by
 obtain⟨css,h1,h2,_⟩:=h;exact tQ h2 g hg
theorem qI.slice (h:qI k T B w v n E):∃ A c,v=bW A n c∧n≤c∧c≤maxLen:=by
 obtain⟨css,h1,h2,_⟩:=h;exact iK h2
theorem qI.move (h:qI k T B w v n E) (hk:∀ g,v.ownBlock=some g→w'.heap[g]? =w.heap[g]?) (hE:∀ j cs,j<n→E j cs→E' j cs):qI k T B w' v n E':=by
 obtain⟨css,h1,h2,h3,h4⟩:=h;refine⟨css,h1,⟨h2.1,?_⟩,h3,fun j cs hj=>hE j cs (by have:=(List.getElem?_eq_some_iff.1 hj).1;omega) (h4 j cs hj)⟩;rcases h2.2 with q|⟨g,cap,cur,rfl,hB,hb,rest⟩
 (·exact .inl q);exact .inr ⟨g,cap,cur,rfl,hB,by rw[hk g rfl];exact hb,rest⟩
theorem qI.get (h:qI k T B w v n E) (hk0:0<k) {j:Nat} (hj:j<n):∃ g c cs,v=bW (bY g 0) n c∧B≤g∧g<w.heap.size∧cs.length=k∧E j cs∧(∀ i u,cs[i]? =some u→b_ w g (j*k+i) u)∧∀ i,w.frozen? (bY g i)=false:=by
 obtain⟨css,h1,h2,h3,h4⟩:=h;have La:j<css.length:=af;obtain⟨g,c,rfl,hg1,hg2⟩:=h2.form af;refine⟨g,c,css[j],rfl,hg1,hg2,h3 _ (aan La),h4 j _ (List.getElem?_eq_getElem La),fun i u hu=>?_,fun i=>h2.frozenAt i⟩;(have hi:i<k:=by have:=(List.getElem?_eq_some_iff.1 hu).1;rw[h3 _ (aan La)]at this;exact this);have hlt:j*k+i<n*k:=by
  have:(j+1)*k≤n*k:=Nat.mul_le_mul_right k hj;rw[aaA]at this;omega
 rw[h2.cellAt _ hlt];exact mI h3 j i _ u (List.getElem?_eq_getElem La) hu
theorem Az {k:Nat}:∀ {css:List (List Value)} (_:∀ cs∈css,cs.length=k) (j i:Nat) (cs:List Value) (u:Value),css[j]? =some cs→i<k→css.flatten.set (j*k+i) u=(css.set j (cs.set i u)).flatten
 |[],_,j,i,cs,u,h,_=>by simp at h
 |a :: l,hk,0,i,cs,u,h,hi=>by
  simp at h;subst h;rw[List.flatten_cons,Nat.zero_mul,Nat.zero_add,List.set_cons_zero,List.flatten_cons,List.set_append_left _ _ (by rw[hk a ai];exact hi)]
 |a :: l,hk,j+1,i,cs,u,h,hi=>by
  have ih:=Az (css:=l) (fun cs hcs=>hk cs (List.mem_cons_of_mem _ hcs)) j i cs u aK hi;have ha:=hk a ai;rw[List.flatten_cons,List.set_cons_succ,List.flatten_cons, ← ih,List.set_append_right _ _ (by rw[ha,aaA];omega),ha,aaA];rw[show j*k+1*k+i - k=j*k+i by omega]
theorem qI.put {g c:Nat} (h:qI k T B w (bW (bY g 0) n c) n E) {j i:Nat} (hj:j<n) (hi:i<k) (u:Value) (hE:∀ cs,cs.length=k→E j cs→E' j (cs.set i u)) (hO:∀ j' cs,j'≠j→j'<n→E j' cs→E' j' cs):qI k T B (w.setCell (bY g (j*k+i)) u) (bW (bY g 0) n c) n E':=by
 obtain⟨css,h1,h2,h3,h4⟩:=h;have La:j<css.length:=af;refine⟨css.set j (css[j].set i u),by simpa using h1,?_,fun cs hcs=>?_,fun j' cs hj'=>?_⟩
 (·rw[← Az h3 j i css[j] u (List.getElem?_eq_getElem La) hi];exact(h2.stored _ u).1)
 ·rcases List.mem_or_eq_of_mem_set hcs with q|q
  (·exact h3 cs q);rw[q,List.length_set];exact h3 _ (aan La)
 by_cases e:j=j'
 (·subst e;rw[List.getElem?_set_self La]at hj';injection hj' with hj';subst hj';exact hE _ (h3 _ (aan La)) (h4 j _ (List.getElem?_eq_getElem La)));rw[List.getElem?_set_ne e]at hj';exact hO j' cs (fun q=>e q.symm) (by have:=(List.getElem?_eq_some_iff.1 hj').1;omega) (h4 j' cs hj')
end
def fU {α:Type} (R:Rel α) (T B:Nat) (w:World) (U:Nat→Prop) (v:Value) (xs:List α):Prop:=
 ∃ t:Nat→Nat,(∀ g,v.ownBlock=some g→U g)∧qI R.k T B w v xs.length fun j cs=>∀ x,xs[j]? =some x→R.is w (fun b=>U b∧some b≠v.ownBlock∧t b=j) cs x
section
variable {α:Type} {R:Rel α} {w w':World} {U U':Nat→Prop} {v:Value} {xs:List α} {B T:Nat}
theorem fU.slice (h:fU R T B w U v xs):∃ A c,v=bW A xs c∧xs.length≤c∧c≤maxLen:=by
 obtain⟨t,_,h⟩:=h;exact h.slice
theorem fU.keep (h:fU R T B w U v xs) (hk:cB U w w'):fU R T B w' U v xs:=by
 obtain⟨t,h1,h2⟩:=h;exact⟨t,h1,h2.move (fun g hg=>hk.2 g (h2.lt g hg).2 (h1 g hg)) fun j cs _ hE x hx=>R.keep (hE x hx) ⟨hk.1,fun b hb hs=>hk.2 b hb hs.1⟩⟩
theorem fU.mono (h:fU R T B w U v xs) (hs:∀ b,b<w.heap.size→U b→U' b):fU R T B w U' v xs:=by
 obtain⟨t,h1,h2⟩:=h;exact⟨t,fun g hg=>hs g (h2.lt g hg).2 (h1 g hg),h2.move (fun g hg=>rfl) fun j cs _ hE x hx=>R.mono (hE x hx) fun b hb q=>⟨hs b hb q.1,q.2⟩⟩
theorem fU.sq {A:Option Addr} {n c:Nat} (h:fU R T B w U (bW A n c) xs):Sq R w U A xs:=by
 obtain⟨t,h1,css,h2,h3,h4,h5⟩:=h;obtain⟨A',c',e,_⟩:=iK h3;injection e with e1 e2 e3;subst e1 e2;refine⟨css,h2,fun hn=>?_,fun j cs x hc hx=>R.mono (h5 j cs hc x hx) fun b _ q=>q.1⟩;have hl:0<xs.length:=by
  rw[← h2];cases css with
  |nil=>exact absurd rfl hn
  |cons x l=>simp
 obtain⟨g,cap',hv,hg1,hg2⟩:=h3.form hl;have hA:A=bY g 0:=(by injection hv);subst hA;refine⟨g,0,rfl,h1 g rfl,hg2,fun j x hx i v hv'=>?_⟩;have:=h3.cells (g:=g) rfl (j*R.k+i) v (mI h4 j i x v hx hv');rw[Addr.add_lit]at this;simpa [Nat.add_assoc]using this
end
def MR (T B:Nat):Rel dZ where
 k:=3
 is:=fun w U cs x=>∃ A c,cs=[bV x.name,bV x.unit,bW A x.rows c]∧fU LD T B w U (bW A x.rows c) x.rows
 len:=fun⟨A,c,h,_⟩=>by rw[h];rfl
 one:=fun⟨A,c,h,_⟩ v hv=>by
  rw[h]at hv;simp at hv;rcases hv with rfl|rfl|rfl<;>rfl
 keep:=fun⟨A,c,h,k⟩ hk=>⟨A,c,h,k.keep hk⟩
 mono:=fun⟨A,c,h,k⟩ hs=>⟨A,c,h,k.mono hs⟩
def TW (T B:Nat):Rel cL where
 k:=7
 is:=fun w U cs x=>∃ A c es,∃ t:Nat→Nat,cs=[bV x.name,bW A x.params c]++es∧fU jm T B w (fun b=>U b∧t b=0) (bW A x.params c) x.params∧cH w (fun b=>U b∧t b=1) es x.body
 len:=fun⟨A,c,es,t,h,_,k⟩=>by rw[h,aao,di.len k];rfl
 one:=fun⟨A,c,es,t,h,_,k⟩ v hv=>by
  rw[h,aar]at hv;rcases hv with hv|hv
  (·simp at hv;rcases hv with rfl|rfl<;>rfl);exact di.one k v hv
 keep:=fun⟨A,c,es,t,h,k1,k2⟩ hk=>⟨A,c,es,t,h,k1.keep ⟨hk.1,fun b hb q=>hk.2 b hb q.1⟩,k2.keep ⟨hk.1,fun b hb q=>hk.2 b hb q.1⟩⟩
 mono:=fun⟨A,c,es,t,h,k1,k2⟩ hs=>⟨A,c,es,t,h,k1.mono fun b hb q=>⟨hs b hb q.1,q.2⟩,k2.mono fun b hb q=>⟨hs b hb q.1,q.2⟩⟩
def TX (T B:Nat):Rel pF where
 k:=6
 is:=fun w U cs x=>∃ A1 c1 A2 c2 A3 c3,∃ t:Nat→Nat,cs=[bU x.kind,bW A1 x.inp c1,bW A2 x.o c2,bV x.name,bW A3 x.cells c3,bU x.amount]∧
  fU iL T B w (fun b=>U b∧t b=0) (bW A1 x.inp c1) x.inp∧fU iL T B w (fun b=>U b∧t b=1) (bW A2 x.o c2) x.o∧fU iL T B w (fun b=>U b∧t b=2) (bW A3 x.cells c3) x.cells
 len:=fun⟨A1,c1,A2,c2,A3,c3,t,h,_⟩=>by rw[h];rfl
 one:=fun⟨A1,c1,A2,c2,A3,c3,t,h,_⟩ v hv=>by
  rw[h]at hv;simp at hv;rcases hv with rfl|rfl|rfl|rfl|rfl|rfl<;>rfl
 keep:=fun⟨A1,c1,A2,c2,A3,c3,t,h,k1,k2,k3⟩ hk=>⟨A1,c1,A2,c2,A3,c3,t,h,k1.keep ⟨hk.1,fun b hb q=>hk.2 b hb q.1⟩,k2.keep ⟨hk.1,fun b hb q=>hk.2 b hb q.1⟩,k3.keep ⟨hk.1,fun b hb q=>hk.2 b hb q.1⟩⟩
 mono:=fun⟨A1,c1,A2,c2,A3,c3,t,h,k1,k2,k3⟩ hs=>⟨A1,c1,A2,c2,A3,c3,t,h,k1.mono fun b hb q=>⟨hs b hb q.1,q.2⟩,k2.mono fun b hb q=>⟨hs b hb q.1,q.2⟩,k3.mono fun b hb q=>⟨hs b hb q.1,q.2⟩⟩
def wY (TS T B:Nat):Rel fW where
 k:=2
 is:=fun w U cs x=>∃ A c,cs=[bV x.kind,bW A x.steps c]∧fU (TX TS B) T B w U (bW A x.steps c) x.steps
 len:=fun⟨A,c,h,_⟩=>by rw[h];rfl
 one:=fun⟨A,c,h,_⟩ v hv=>by
  rw[h]at hv;simp at hv;rcases hv with rfl|rfl<;>rfl
 keep:=fun⟨A,c,h,k⟩ hk=>⟨A,c,h,k.keep hk⟩
 mono:=fun⟨A,c,h,k⟩ hs=>⟨A,c,h,k.mono hs⟩
end
end
section
open Go Go.RowKit Go.Proofs Sh Kb
section
theorem yJ {w:World} {B B' e size n:Nat} {v:Value} {us:List Value} (h:w.ownsRow B' e size v n us) (hB:B≤B'):w.ownsRow B e size v n us:=by
 refine⟨h.1,?_⟩;rcases h.2 with q|⟨g,cap,cur,q,hb,rest⟩
 (·exact .inl q);exact .inr ⟨g,cap,cur,q,aaC hB hb,rest⟩
abbrev Tag:=Nat→Nat×Nat
def UT (tag:Tag) (B i b:Nat):Prop:=B≤b∧((tag b).1=i∨(tag b).1=10+i)
def EM {α:Type} (Ro Rn:Rel α) (i B:Nat) (tag:Tag) (xs:List α) (k:Nat) (w:World) (j:Nat) (cs:List Value):Prop:=
 ∀ x,xs[j]? =some x→if j<k then Rn.is w (fun b=>B≤b∧tag b=(i,j)) cs x else Ro.is w (fun b=>b<B) cs x
def kU {α:Type} (Ro Rn:Rel α) (T i B:Nat) (tag:Tag) (xs:List α) (k:Nat) (w:World) (v:Value):Prop:=
 qI Rn.k T B w v xs.length (EM Ro Rn i B tag xs k w)∧∀ g,v.ownBlock=some g→tag g=(10+i,0)
section
variable {α:Type} {Ro Rn:Rel α} {T i B k:Nat} {tag tag':Tag} {xs:List α} {w w':World} {v:Value}
theorem kU.keep (h:kU Ro Rn T i B tag xs k w v) (hk:cB (fun b=>b<B∨UT tag B i b) w w'):kU Ro Rn T i B tag xs k w' v:=by
 refine⟨h.1.move (fun g hg=>hk.2 g (h.1.lt g hg).2 (.inr ⟨(h.1.lt g hg).1,.inr (by rw[h.2 g hg])⟩)) fun j cs _ hE x hx=>?_,h.2⟩;have:=hE x hx;split
 ·next hj=>
  rw[if_pos hj]at this;exact Rn.keep this ⟨hk.1,fun b hb q=>hk.2 b hb (.inr ⟨q.1,.inl (by rw[q.2])⟩)⟩
 next hj=>
 rw[if_neg hj]at this;exact Ro.keep this ⟨hk.1,fun b hb q=>hk.2 b hb (.inl q)⟩
theorem kU.bZ (h:kU Ro Rn T i B tag xs k w v) (hb:Below w w w'):kU Ro Rn T i B tag xs k w' v:=h.keep (cB.cA hb)
theorem kU.lz (h:kU Ro Rn T i B tag xs k w v) (ht:∀ b,b<w.heap.size→tag' b=tag b):kU Ro Rn T i B tag' xs k w v:=by
 refine⟨h.1.move (fun g hg=>rfl) fun j cs _ hE x hx=>?_,fun g hg=>by rw[ht g (h.1.lt g hg).2];exact h.2 g hg⟩;have:=hE x hx;split
 ·next hj=>
  rw[if_pos hj]at this;exact Rn.mono this fun b hb q=>⟨q.1,by rw[ht b hb];exact q.2⟩
 next hj=>
 rw[if_neg hj]at this;exact this
theorem kU.slice (h:kU Ro Rn T i B tag xs k w v):∃ A c,v=bW A xs c∧xs.length≤c∧c≤maxLen:=h.1.slice
theorem kU.start {S:Nat→Prop} {B':Nat} (hk:Ro.k=Rn.k) (h:dO Ro T B' w S v xs) (hB:B≤B') (hS:∀ b,S b→b<B) (ht:∀ g,v.ownBlock=some g→tag g=(10+i,0)):kU Ro Rn T i B tag xs 0 w v:=by
 obtain⟨css,h2,h3,h4,h5⟩:=h;rw[hk]at h3 h4;exact⟨⟨css,h2,yJ h3 hB,h4,fun j cs hc x hx=>by rw[if_neg (Nat.not_lt_zero j)];exact Ro.mono (h5 j cs x hc hx) fun b _ q=>hS b q.1⟩,ht⟩
theorem kU.done (h:kU Ro Rn T i B tag xs k w v) (hk:xs.length≤k):fU Rn T B w (UT tag B i) v xs:=by
 refine⟨fun b=>(tag b).2,fun g hg=>⟨(h.1.lt g hg).1,.inr (by rw[h.2 g hg])⟩,h.1.move (fun g hg=>rfl) fun j cs hj hE x hx=>?_⟩;have:=hE x hx;rw[if_pos af]at this;refine Rn.mono this fun b hb q=>⟨⟨q.1,.inl (by rw[q.2])⟩,fun e=>?_,by show(tag b).2=j;rw[q.2]⟩;have h9:=h.2 b e.symm;rw[q.2]at h9;injection h9 with h9 _;omega
theorem fU.start {S:Nat→Prop} {B':Nat} {k:Nat} {f:α→List Value} {hk:∀ x,(f x).length=k} {h1:∀ x,∀ v∈f x,v.oneCell'=true} (h:dO (mg k f hk h1) T B' w S v xs) (hB:B≤B') (ht:∀ g,v.ownBlock=some g→tag g=(10+i,0)):fU (mg k f hk h1) T B w (UT tag B i) v xs:=by
 obtain⟨css,h2,h3,h4,h5⟩:=h;exact⟨fun _=>0,fun g hg=>⟨aaC hB (tQ h3 g hg).1,.inr (by rw[ht g hg])⟩,css,h2,yJ h3 hB,h4,fun j cs hc x hx=>h5 j cs x hc hx⟩
theorem fU.lz {R:Rel α} (h:fU R T B w (UT tag B i) v xs) (ht:∀ b,b<w.heap.size→tag' b=tag b):fU R T B w (UT tag' B i) v xs:=h.mono fun b hb q=>⟨q.1,by rw[ht b hb];exact q.2⟩
end
structure YB (p:Nat) (w:World) (a:j6) (s:cK) (tag:Tag) (k3 k4 k5 k8:Nat) (wr:World):Prop where
 blk:cN wr p 31 (dU a s)
 res:cN wr (p+1) 31 (BU)
 i1:fU qT 192 (p+2) wr (UT tag (p+2) 1) (bW a.A1 s.imports a.c1) s.imports
 i2:fU qU 102 (p+2) wr (UT tag (p+2) 2) (bW a.A2 s.inputs a.c2) s.inputs
 i3:kU mG (MR 114 (p+2)) 65 3 (p+2) tag s.tables k3 wr (bW a.A3 s.tables a.c3)
 i4:kU gR (TW 112 (p+2)) 69 4 (p+2) tag s.funcs k4 wr (bW a.A4 s.funcs a.c4)
 i5:kU m_ m_ 49 5 (p+2) tag s.cells k5 wr (bW a.A5 s.cells a.c5)
 i6:fU BW 194 (p+2) wr (UT tag (p+2) 6) (bW a.A6 s.ei a.c6) s.ei
 i7:fU uM 196 (p+2) wr (UT tag (p+2) 7) (bW a.A7 s.stores a.c7) s.stores
 i8:kU nV (wY 9 150 (p+2)) 125 8 (p+2) tag s.cI k8 wr (bW a.A8 s.cI a.c8)
 bZ:Below p w wr
section
variable {p:Nat} {w wr w1:World} {a:j6} {s:cK} {tag tag':Tag} {k3 k4 k5 k8:Nat}
theorem YB.WY (h:YB p w a s tag k3 k4 k5 k8 wr) (hb:Below wr wr w1):YB p w a s tag k3 k4 k5 k8 w1:=
 ⟨h.blk.bZ hb h.blk.lt,h.res.bZ hb h.res.lt,h.i1.keep (cB.cA hb),h.i2.keep (cB.cA hb),h.i3.bZ hb,h.i4.bZ hb,h.i5.bZ hb,h.i6.keep (cB.cA hb),h.i7.keep (cB.cA hb),h.i8.bZ hb,h.bZ.trans (hb.mono (Nat.le_of_lt h.blk.lt))⟩
theorem YB.lz (h:YB p w a s tag k3 k4 k5 k8 wr) (ht:∀ b,b<wr.heap.size→tag' b=tag b):YB p w a s tag' k3 k4 k5 k8 wr:=
 ⟨h.blk,h.res,h.i1.lz ht,h.i2.lz ht,h.i3.lz ht,h.i4.lz ht,h.i5.lz ht,h.i6.lz ht,h.i7.lz ht,h.i8.lz ht,h.bZ⟩
variable {g:Nat}
end
def Ek (tag:Tag) (n:Nat) (x:Nat×Nat):Tag:=fun b=>if n≤b then x else tag b
theorem qJ {tag:Tag} {n:Nat} {x:Nat×Nat}:∀ b,b<n→Ek tag n x b=tag b:=fun b hb=>by unfold Ek;rw[if_neg af]
theorem wZ {tag:Tag} {n:Nat} {x:Nat×Nat} {b:Nat} (hb:n≤b):Ek tag n x b=x:=by unfold Ek;rw[if_pos hb]
theorem fU.fresh {α:Type} {k:Nat} {f:α→List Value} {hk:∀ x,(f x).length=k} {h1:∀ x,∀ v∈f x,v.oneCell'=true} {S U:Nat→Prop} {T B B':Nat} {w:World} {v:Value} {xs:List α} (h:dO (mg k f hk h1) T B' w S v xs) (hB:B≤B') (hU:∀ b,B'≤b→U b):fU (mg k f hk h1) T B w U v xs:=by
 obtain⟨css,h2,h3,h4,h5⟩:=h;exact⟨fun _=>0,fun g hg=>hU g (tQ h3 g hg).1,css,h2,yJ h3 hB,h4,fun j cs hc x hx=>h5 j cs x hc hx⟩
theorem kU.step {α:Type} {Ro Rn:Rel α} {T i B k:Nat} {tag:Tag} {xs:List α} {w:World} {g n c m:Nat} {u:Value} (h:kU Ro Rn T i B tag xs k w (bW (bY g 0) n c)) (hn:n=xs.length) (hk:k<xs.length) (hm:m<Rn.k) (hkk:Ro.k=Rn.k) (hE:∀ cs,Ro.is w (fun b=>b<B) cs xs[k]→Rn.is w (fun b=>B≤b∧tag b=(i,k)) (cs.set m u) xs[k]) (hi:i<10):kU Ro Rn T i B tag xs (k+1) (w.setCell (bY g (k*Rn.k+m)) u) (bW (bY g 0) n c):=by
 subst hn;have ht:=h.2 g rfl;have hgB:=(h.1.lt g rfl).1;have h1:=h.1.put (E':=EM Ro Rn i B tag xs (k+1) w) hk hm u (fun cs cM he x hx=>by
  have hxx:xs[k]=x:=Option.some.inj ((List.getElem?_eq_getElem hk).symm.trans hx);subst hxx;have h2:=he xs[k] hx;rw[if_neg (Nat.lt_irrefl k)]at h2;rw[if_pos af];exact hE cs h2) (fun j' cs hj hjn he x hx=>by
  have h2:=he x hx;by_cases q:j'<k
  (·rw[if_pos q]at h2;rw[if_pos af];exact h2);rw[if_neg q]at h2;rw[if_neg af];exact h2)
 refine⟨h1.move (fun _ _=>rfl) fun j cs _ he x hx=>?_,h.2⟩;have h2:=he x hx;have nj:∀ b,b≠g→(w.setCell (bY g (k*Rn.k+m)) u).heap[b]? =w.heap[b]? :=fun b hb=>aae w (bY g (k*Rn.k+m)) u b hb;split
 ·next q=>
  rw[if_pos q]at h2;exact Rn.keep h2 ⟨by simp[World.setCell],fun b _ hb=>nj b (fun e=>by rw[e,ht]at hb;have:=hb.2;injection this;omega)⟩
 next q=>
 rw[if_neg q]at h2;exact Ro.keep h2 ⟨by simp[World.setCell],fun b _ hb=>nj b af⟩
def p9 (g o:Nat) (w:World) (ws:List (Nat×Value)):World:=ws.foldl (fun w x=>w.setCell (bY g (o+x.1)) x.2) w
def sets (cs:List Value) (ws:List (Nat×Value)):List Value:=ws.foldl (fun cs x=>cs.set x.1 x.2) cs
theorem oO {g o:Nat}:∀ (ws:List (Nat×Value)) (w:World),w.heap.size=(p9 g o w ws).heap.size∧(p9 g o w ws).os=w.os∧(p9 g o w ws).tape=w.tape∧(p9 g o w ws).output=w.output∧∀ b,b≠g→(p9 g o w ws).heap[b]? =w.heap[b]?
 |[],w=>⟨rfl,rfl,rfl,rfl,fun _ _=>rfl⟩
 |x :: ws,w=>by
  obtain⟨h1,h2,h3,h4,h5⟩:=oO ws (w.setCell (bY g (o+x.1)) x.2) (g:=g) (o:=o);exact⟨by rw[show(p9 g o w (x :: ws))=p9 g o (w.setCell (bY g (o+x.1)) x.2) ws from rfl, ← h1];simp[World.setCell],h2,h3,h4,fun b hb=>(h5 b hb).trans (aae w (bY g (o+x.1)) x.2 b hb)⟩
theorem qI.p9 {K T B n g c k:Nat}:∀ (ws:List (Nat×Value)) {w:World} {E:Nat→List Value→Prop},qI K T B w (bW (bY g 0) n c) n E→k<n→(∀ x∈ws,x.1<K)→
 qI K T B (p9 g (k*K) w ws) (bW (bY g 0) n c) n (fun j cs=>if j=k then ∃ cs0,cs0.length=K∧E k cs0∧cs=sets cs0 ws else E j cs)
 |[],w,E,h,hk,_=>by
  obtain⟨css,h1,h2,h3,h4⟩:=h;refine⟨css,h1,h2,h3,fun j cs hj=>?_⟩;dsimp only;split
  (·(next e=>subst e;exact⟨cs,h3 cs (List.mem_of_getElem? hj),h4 j cs hj,rfl⟩));exact h4 j cs hj
 |x :: ws,w,E,h,hk,hm=>by
  have h1:=h.put (E':=fun j cs=>if j=k then ∃ cs0,cs0.length=K∧E k cs0∧cs=cs0.set x.1 x.2 else E j cs) hk (hm x ai) x.2 (fun cs hl he=>by rw[if_pos rfl];exact⟨cs,hl,he,rfl⟩) (fun j' cs hj _ he=>by rw[if_neg hj];exact he);have h2:=qI.p9 ws h1 hk fun y hy=>hm y (by simp[hy]);refine h2.move (fun _ _=>rfl) fun j cs _ he=>?_;by_cases q:j=k
  (·rw[if_pos q]at he ⊢;obtain⟨cs1,hl1,he1,e1⟩:=he;rw[if_pos rfl]at he1;obtain⟨cs0,hl0,he0,e0⟩:=he1;exact⟨cs0,hl0,he0,by rw[e1,e0];rfl⟩);rw[if_neg q]at he ⊢;rw[if_neg q]at he;exact he
theorem kU.steps {α:Type} {Ro Rn:Rel α} {T i B k:Nat} {tag:Tag} {xs:List α} {w:World} {g n c:Nat} (ws:List (Nat×Value)) (h:kU Ro Rn T i B tag xs k w (bW (bY g 0) n c)) (hn:n=xs.length) (hk:k<xs.length) (hm:∀ x∈ws,x.1<Rn.k) (hE:∀ cs,Ro.is w (fun b=>b<B) cs xs[k]→Rn.is w (fun b=>B≤b∧tag b=(i,k)) (sets cs ws) xs[k]):kU Ro Rn T i B tag xs (k+1) (p9 g (k*Rn.k) w ws) (bW (bY g 0) n c):=by
 subst hn;have ht:=h.2 g rfl;have hgB:=(h.1.lt g rfl).1;have h1:=h.1.p9 ws hk hm;obtain⟨f1,_,_,_,f5⟩:=oO (g:=g) (o:=k*Rn.k) ws w;refine⟨h1.move (fun _ _=>rfl) fun j cs _ he x hx=>?_,h.2⟩;by_cases q:j=k
 (·subst q;rw[if_pos rfl]at he;obtain⟨cs0,_,he0,rfl⟩:=he;have hxx:xs[j]=x:=Option.some.inj ((List.getElem?_eq_getElem hk).symm.trans hx);subst hxx;have h2:=he0 xs[j] hx;rw[if_neg (Nat.lt_irrefl j)]at h2;rw[if_pos af];exact Rn.keep (hE cs0 h2) ⟨by omega,fun b _ hb=>f5 b (fun e=>by rw[e,ht]at hb;have:=hb.2;injection this;omega)⟩);rw[if_neg q]at he;have h2:=he x hx;by_cases q2:j<k
 (·rw[if_pos q2]at h2;rw[if_pos af];exact Rn.keep h2 ⟨by omega,fun b _ hb=>f5 b (fun e=>by rw[e,ht]at hb;have:=hb.2;injection this;omega)⟩);rw[if_neg q2]at h2;rw[if_neg af];exact Ro.keep h2 ⟨by omega,fun b _ hb=>f5 b af⟩
end
section
structure Xi (p:Nat) (w:World) (a:j6) (s:cK) (tag:Tag) (k3 k4 k5 k h0:Nat) (x:fW) (A':Option Addr) (c':Nat) (El:Tag) (kk:Nat) (wr:World):Prop where
 blk:cN wr p 31 (dU a s)
 res:cN wr (p+1) 31 (BU)
 i1:fU qT 192 (p+2) wr (UT tag (p+2) 1) (bW a.A1 s.imports a.c1) s.imports
 i2:fU qU 102 (p+2) wr (UT tag (p+2) 2) (bW a.A2 s.inputs a.c2) s.inputs
 i3:kU mG (MR 114 (p+2)) 65 3 (p+2) tag s.tables k3 wr (bW a.A3 s.tables a.c3)
 i4:kU gR (TW 112 (p+2)) 69 4 (p+2) tag s.funcs k4 wr (bW a.A4 s.funcs a.c4)
 i5:kU m_ m_ 49 5 (p+2) tag s.cells k5 wr (bW a.A5 s.cells a.c5)
 i6:fU BW 194 (p+2) wr (UT tag (p+2) 6) (bW a.A6 s.ei a.c6) s.ei
 i7:fU uM 196 (p+2) wr (UT tag (p+2) 7) (bW a.A7 s.stores a.c7) s.stores
 i8:qI 2 125 (p+2) wr (bW a.A8 s.cI a.c8) s.cI.length fun j cs=>if j=k then cs=[bV x.kind,bW A' x.steps c']else EM nV (wY 9 150 (p+2)) 8 (p+2) tag s.cI k wr j cs
 own8:∀ g,(bW a.A8 s.cI a.c8).ownBlock=some g→tag g=(18,0)
 bZ:Below p w wr
 hx:s.cI[k]? =some x
 inn:kU sA (TX 9 (p+2)) 150 0 (p+2) El x.steps kk wr (bW A' x.steps c')
 new:∀ b,(El b).1=0∨(El b).1=10→h0≤b
 tags:∀ b,h0≤b→tag b=(8,k)
 base:p+2≤h0∧h0≤wr.heap.size
section
variable {p:Nat} {w wr w1:World} {a:j6} {s:cK} {tag:Tag} {k3 k4 k5 k h0 kk c' g:Nat} {x:fW} {A':Option Addr} {El:Tag} {S:Nat→Prop}
theorem TY {w w':World} {j:Nat} {cs:List Value} (h:EM nV (wY 9 150 (p+2)) 8 (p+2) tag s.cI k w j cs) (hk:cB (fun b=>b<p+2∨∃ i,i<k∧tag b=(8,i)) w w'):EM nV (wY 9 150 (p+2)) 8 (p+2) tag s.cI k w' j cs:=fun y hy=>by
 have h1:=h y hy;split
 ·next q=>
  rw[if_pos q]at h1;exact Rel.keep _ h1 ⟨hk.1,fun b hb hs=>hk.2 b hb (.inr ⟨j,q,hs.2⟩)⟩
 next q=>
 rw[if_neg q]at h1;exact Rel.keep _ h1 ⟨hk.1,fun b hb hs=>hk.2 b hb (.inl hs)⟩
theorem Xi.keep {kk':Nat} {OD:Tag} (h:Xi p w a s tag k3 k4 k5 k h0 x A' c' El kk wr) (hs:wr.heap.size≤w1) (hb:∀ b,b<wr.heap.size→b<h0→w1.heap[b]? =wr.heap[b]?) (ho:w1.os=wr.os∧w1.tape=wr.tape∧w1.output=wr.output) (hi:kU sA (TX 9 (p+2)) 150 0 (p+2) OD x.steps kk' w1 (bW A' x.steps c')) (hn:∀ b,(OD b).1=0∨(OD b).1=10→h0≤b):Xi p w a s tag k3 k4 k5 k h0 x A' c' OD kk' w1:=by
 have hb1:=h.base.1;have hk:∀ {i:Nat},i≠8→cB (fun b=>b<p+2∨UT tag (p+2) i b) wr w1:=fun {i} hi=>⟨hs,fun b yK hq=>hb b yK (by
  rcases hq with hq|hq
  (·omega);rcases Nat.lt_or_ge b h0 with q|q
  (·exact q);have:=hq.2;rw[h.tags b q]at this;simp only at this;omega)⟩
 have hk1:∀ {i:Nat},i≠8→cB (UT tag (p+2) i) wr w1:=fun hi=>⟨hs,fun b yK hq=>(hk hi).2 b yK (.inr hq)⟩;refine⟨(hb p h.blk.lt af).trans h.blk,(hb (p+1) h.res.lt af).trans h.res,h.i1.keep (hk1 ak),h.i2.keep (hk1 ak),h.i3.keep (hk ak),h.i4.keep (hk ak),h.i5.keep (hk ak),h.i6.keep (hk1 ak),h.i7.keep (hk1 ak),?_,h.own8,
  ⟨ho.1.trans h.bZ.os,ho.2.1.trans h.bZ.tape,ho.2.2.trans h.bZ.output,aaC h.bZ.size hs,fun b D_=>(hb b (by have:=h.res.lt;omega) af).trans (h.bZ.block b D_)⟩,h.hx,hi,hn,h.tags,⟨hb1,aaC h.base.2 hs⟩⟩
 refine h.i8.move (fun g hg=>?_) fun j cs _ he=>?_
 ·have hg2:=(h.i8.lt g hg).2;refine hb g hg2 ?_;rcases Nat.lt_or_ge g h0 with q|q
  (·exact q);have h9:=h.own8 g hg;rw[h.tags g q]at h9;injection h9 with h9 _;omega
 by_cases q:j=k
 (·rw[if_pos q]at he ⊢;exact he);rw[if_neg q]at he ⊢;exact TY he ⟨hs,fun b yK hq=>hb b yK (by
  rcases hq with hq|⟨i,hi,hq⟩
  (·omega);rcases Nat.lt_or_ge b h0 with r|r
  (·exact r);rw[h.tags b r]at hq;injection hq with _ hq;omega)⟩
theorem Xi.WY (h:Xi p w a s tag k3 k4 k5 k h0 x A' c' El kk wr) (hb:Below wr wr w1):Xi p w a s tag k3 k4 k5 k h0 x A' c' El kk w1:=
 h.keep hb.size (fun b yK _=>hb.block b yK) ⟨hb.os,hb.tape,hb.output⟩ (h.inn.bZ hb) h.new
theorem Xi.step {w2 w3:World} {z:pF} {A1 A2 A3:Option Addr} {c1 c2 c3:Nat} {S1 S2 S3:Nat→Prop} (h:Xi p w a s tag k3 k4 k5 k h0 x A' c' El kk wr) (hkk:kk<x.steps.length) (hz:x.steps[kk]=z) (hA:A'=bY g 0) (hb1:Below wr wr w1) (o1:dO iL 9 wr.heap.size w1 S1 (bW A1 z.inp c1) z.inp) (hb2:Below w1 w1 w2) (o2:dO iL 9 w1.heap.size w2 S2 (bW A2 z.o c2) z.o) (hb3:Below w2 w2 w3) (o3:dO iL 9 w2.heap.size w3 S3 (bW A3 z.cells c3) z.cells):Xi p w a s tag k3 k4 k5 k h0 x A' c' (Ek El wr (0,kk)) (kk+1) (p9 g (kk*6) w3 [(1,bW A1 z.inp c1),(2,bW A2 z.o c2),(4,bW A3 z.cells c3)]):=by
 subst hz;have hs1:=hb1.size;have hs2:=hb2.size;have hs3:=hb3.size;have hbT:Below wr wr w3:=hb1.trans ((hb2.mono hs1).trans (hb3.mono (aaC hs1 hs2)));have hb0:=h.base;have hr:=(h.inn.lz (tag':=Ek El wr (0,kk)) qJ).bZ hbT;rw[hA]at hr;have hst:=kU.steps [(1,bW A1 x.steps[kk].inp.length c1),(2,bW A2 x.steps[kk].o.length c2),(4,bW A3 x.steps[kk].cells.length c3)] hr rfl hkk (by intro y hy;show y.1<6;simp at hy;rcases hy with rfl|rfl|rfl<;>simp) (fun cs hcs=>by
  obtain⟨B1,d1,B2,d2,B3,d3,e,_⟩:=hcs;rw[e];refine⟨A1,c1,A2,c2,A3,c3,fun b=>if b<w1.heap.size then 0 else if b<w2.heap.size then 1 else 2,rfl,?_,?_,?_⟩
  (·have hx:fU iL 9 (p+2) w1 (fun b=>wr.heap.size≤b) (bW A1 x.steps[kk].inp.length c1) x.steps[kk].inp:=fU.fresh o1 af fun b hb=>hb;exact(hx.mono (U':=fun b=>wr.heap.size≤b∧b<w1.heap.size) (fun b hb q=>⟨q,hb⟩)).keep (cB.cA (hb2.trans (hb3.mono hs2))) |>.mono fun b _ q=>⟨⟨by omega,wZ q.1⟩,by simp only[if_pos q.2]⟩)
  (·have hx:fU iL 9 (p+2) w2 (fun b=>w1.heap.size≤b) (bW A2 x.steps[kk].o.length c2) x.steps[kk].o:=fU.fresh o2 af fun b hb=>hb;exact(hx.mono (U':=fun b=>w1.heap.size≤b∧b<w2.heap.size) (fun b hb q=>⟨q,hb⟩)).keep (cB.cA hb3) |>.mono fun b _ q=>⟨⟨by omega,wZ af⟩,by simp only[if_neg (show ¬b<w1.heap.size by omega),if_pos q.2]⟩);have hx:fU iL 9 (p+2) w3 (fun b=>w2.heap.size≤b) (bW A3 x.steps[kk].cells.length c3) x.steps[kk].cells:=fU.fresh o3 af fun b hb=>hb;exact hx.mono fun b _ q=>⟨⟨by omega,wZ af⟩,by simp only[if_neg (show ¬b<w1.heap.size by omega),if_neg (show ¬b<w2.heap.size by omega)]⟩)
 have hgt:=hr.2 g rfl;have hgnew:h0≤g:=by
  rcases Nat.lt_or_ge g wr with r|r
  (·rw[qJ g r]at hgt;exact h.new g (.inr (by rw[hgt])));omega
 obtain⟨f1,f2,f3,f4,f5⟩:=oO (g:=g) (o:=kk*6) [(1,bW A1 x.steps[kk].inp.length c1),(2,bW A2 x.steps[kk].o.length c2),(4,bW A3 x.steps[kk].cells.length c3)] w3;refine h.keep (by have:=hbT.size;omega) (fun b hb hbh=>(f5 b af).trans (hbT.block b hb)) ⟨f2.trans hbT.os,f3.trans hbT.tape,f4.trans hbT.output⟩ (by rw[hA];exact hst) fun b hb=>?_;rcases Nat.lt_or_ge b wr with r|r
 (·rw[qJ b r]at hb;exact h.new b hb);omega
end
structure tj (B:Nat) (w:World) (a:j6) (s:cK) (tag:Tag):Prop where
 i1:fU qT 192 B w (UT tag B 1) (bW a.A1 s.imports a.c1) s.imports
 i2:fU qU 102 B w (UT tag B 2) (bW a.A2 s.inputs a.c2) s.inputs
 i3:fU (MR 114 B) 65 B w (UT tag B 3) (bW a.A3 s.tables a.c3) s.tables
 i4:fU (TW 112 B) 69 B w (UT tag B 4) (bW a.A4 s.funcs a.c4) s.funcs
 i5:fU m_ 49 B w (UT tag B 5) (bW a.A5 s.cells a.c5) s.cells
 i6:fU BW 194 B w (UT tag B 6) (bW a.A6 s.ei a.c6) s.ei
 i7:fU uM 196 B w (UT tag B 7) (bW a.A7 s.stores a.c7) s.stores
 i8:fU (wY 9 150 B) 125 B w (UT tag B 8) (bW a.A8 s.cI a.c8) s.cI
section
variable {p:Nat} {w wr:World} {a:j6} {s:cK} {tag:Tag}
theorem tj.keep {B:Nat} {w':World} (h:tj B w a s tag) (hk:cB (fun b=>B≤b) w w'):tj B w' a s tag:=
 have k:∀ i,cB (UT tag B i) w w':=fun i=>⟨hk.1,fun b hb q=>hk.2 b hb q.1⟩
 ⟨h.i1.keep (k 1),h.i2.keep (k 2),h.i3.keep (k 3),h.i4.keep (k 4),h.i5.keep (k 5),h.i6.keep (k 6),h.i7.keep (k 7),h.i8.keep (k 8)⟩
theorem YB.all (h:YB p w a s tag s.tables.length s.funcs.length s.cells.length s.cI.length wr):tj (p+2) wr a s tag:=
 ⟨h.i1,h.i2,h.i3.done aac,h.i4.done aac,h.i5.done aac,h.i6,h.i7,h.i8.done aac⟩
end
end
section
theorem fU.replace {α:Type} {R:Rel α} {T B g n c j:Nat} {w0 w1:World} {U U':Nat→Prop} {xs:List α} {y:α} (ws:List (Nat×Value)) {cs':List Value} (h:fU R T B w0 U (bW (bY g 0) n c) xs) (hn:n=xs.length) (hj:j<xs.length) (hb:cB U w0 w1) (hy:R.is w1 (fun b=>w0.heap.size≤b) cs' y) (Zp:∀ cs,cs.length=R.k→sets cs ws=cs') (hm:∀ x∈ws,x.1<R.k) (h1:∀ b,b<w0.heap.size→U b→U' b) (h2:∀ b,w0.heap.size≤b→U' b):fU R T B (p9 g (j*R.k) w1 ws) U' (bW (bY g 0) n c) (xs.set j y):=by
 subst hn;obtain⟨t,hU,hr⟩:=h;have hg:=(hr.lt g rfl).2;obtain⟨f1,_,_,_,f5⟩:=oO (g:=g) (o:=j*R.k) ws w1;have Cr:qI R.k T B w1 (bW (bY g 0) xs c) xs.length fun i cs=>∀ x,xs[i]? =some x→R.is w1 (fun b=>U b∧b≠g∧t b=i∧b<w0.heap.size) cs x:=
  hr.move (fun g' hg'=>hb.2 g' (hr.lt g' hg').2 (hU g' hg')) fun i cs _ he x hx=>R.keep (R.mono (he x hx) fun b hb' q=>⟨q.1,fun e=>q.2.1 (by rw[e];rfl),q.2.2,hb'⟩) ⟨hb.1,fun b hb' q=>hb.2 b hb' q.1⟩
 have hm2:=Cr.p9 ws hj hm;refine⟨fun b=>if b<w0.heap.size then t b else j,fun g' hg'=>?_,?_⟩
 (·have e:g=g':=(by simpa [Value.ownBlock]using hg');subst e;exact h1 g hg (hU g rfl));rw[List.length_set];refine hm2.move (fun _ _=>rfl) fun i cs hi he x hx=>?_;by_cases q:i=j
 (·subst q;rw[if_pos rfl]at he;obtain⟨cs0,hl0,_,e⟩:=he;rw[Zp cs0 hl0]at e;subst e;have hxy:y=x:=(by rw[List.getElem?_set_self hj]at hx;exact Option.some.inj hx);subst hxy;refine R.mono (R.keep hy ⟨by omega,fun b _ hb'=>f5 b af⟩) fun b _ hb'=>⟨h2 b hb',by simp[Value.ownBlock];omega,by simp only[if_neg (show ¬b<w0.heap.size by omega)]⟩);rw[if_neg q]at he;rw[List.getElem?_set_ne (fun e=>q e.symm)]at hx;exact R.mono (R.keep (he x hx) ⟨by omega,fun b _ hb'=>f5 b hb'.2.1⟩) fun b _ hb'=>⟨h1 b hb'.2.2.2 hb'.1,by simp[Value.ownBlock];exact hb'.2.1,by simp only[if_pos hb'.2.2.2];exact hb'.2.2.1⟩
section
variable {B g j:Nat} {w0 w1:World} {a:j6} {s:cK} {tag:Tag}
theorem tj.keepT {w':World} (h:tj B w0 a s tag) (hk:∀ i,i<10→cB (UT tag B i) w0 w'):tj B w' a s tag:=
 ⟨h.i1.keep (hk 1 ak),h.i2.keep (hk 2 ak),h.i3.keep (hk 3 ak),h.i4.keep (hk 4 ak),h.i5.keep (hk 5 ak),h.i6.keep (hk 6 ak),h.i7.keep (hk 7 ak),h.i8.keep (hk 8 ak)⟩
theorem tj.lz {tag':Tag} (h:tj B w0 a s tag) (ht:∀ b,b<w0.heap.size→tag' b=tag b):tj B w0 a s tag':=
 ⟨h.i1.lz ht,h.i2.lz ht,h.i3.lz ht,h.i4.lz ht,h.i5.lz ht,h.i6.lz ht,h.i7.lz ht,h.i8.lz ht⟩
theorem tj.bZ {w':World} (h:tj B w0 a s tag) (hb:Below w0 w0 w'):tj B w' a s tag:=h.keep ⟨hb.size,fun b hb' _=>hb.block b hb'⟩
theorem tj.set5 {y:fD} {v0 v1 v2 v3 v4 v5 v6:Value} (h:tj B w0 a s tag) (hB:B≤w0.heap.size) (hA:a.A5=bY g 0) (hj:j<s.cells.length) (hb:∀ i,i<10→cB (UT tag B i) w0 w1) (hy:m_.is w1 (fun b=>w0.heap.size≤b) [v0,v1,v2,v3,v4,v5,v6] y):tj B (p9 g (j*7) w1 [(0,v0),(1,v1),(2,v2),(3,v3),(4,v4),(5,v5),(6,v6)]) a {s with cells:=s.cells.set j y} (Ek tag w0 (5,0)):=by
 have h5:=h.i5;rw[hA]at h5;(have hg:UT tag B 5 g:=by obtain⟨t,hU,_⟩:=h5;exact hU g rfl);(have zK:g<w0.heap.size:=by obtain⟨t,_,hr⟩:=h5;exact(hr.lt g rfl).2);have hr:=fU.replace (U':=UT (Ek tag w0 (5,0)) B 5) [(0,v0),(1,v1),(2,v2),(3,v3),(4,v4),(5,v5),(6,v6)] h5 rfl hj (hb 5 ak) hy (fun cs hcs=>by
  have hl:cs.length=7:=hcs
  match cs,hl with
  |[a0,a1,a2,a3,a4,a5,a6],_=>rfl) (by intro x hx;show x.1<7;simp at hx;rcases hx with rfl|rfl|rfl|rfl|rfl|rfl|rfl<;>simp) (fun b hb' q=>⟨q.1,by rw[qJ b hb'];exact q.2⟩) (fun b hb'=>⟨by omega,by rw[wZ hb'];exact .inl rfl⟩)
 obtain⟨f1,_,_,_,f5⟩:=oO (g:=g) (o:=j*7) [(0,v0),(1,v1),(2,v2),(3,v3),(4,v4),(5,v5),(6,v6)] w1;have K:∀ i,i≠5→i<10→cB (UT tag B i) w0 (p9 g (j*7) w1 [(0,v0),(1,v1),(2,v2),(3,v3),(4,v4),(5,v5),(6,v6)]):=fun i hi h10=>⟨by have:=(hb i h10).1;omega,fun b hb' q=>(f5 b (fun e=>by
  subst e;rcases hg.2 with q1|q1<;>rcases q.2 with q2|q2<;>omega)).trans ((hb i h10).2 b hb' q)⟩
 have kk:∀ {α:Type} {R:Rel α} {T:Nat} {v:Value} {xs:List α} {i:Nat},i≠5→i<10→fU R T B w0 (UT tag B i) v xs→fU R T B (p9 g (j*7) w1 [(0,v0),(1,v1),(2,v2),(3,v3),(4,v4),(5,v5),(6,v6)]) (UT (Ek tag w0 (5,0)) B i) v xs:=fun hi h10 q=>
  (q.mono (U':=fun b=>UT tag B _ b∧b<w0.heap.size) (fun b hb' r=>⟨r,hb'⟩)).keep ⟨(K _ hi h10).1,fun b hb' r=>(K _ hi h10).2 b hb' r.1⟩ |>.mono fun b _ r=>⟨r.1.1,by rw[qJ b r.2];exact r.1.2⟩
 exact⟨kk ak ak h.i1,kk ak ak h.i2,kk ak ak h.i3,kk ak ak h.i4,by dsimp only;rw[List.length_set,hA];exact hr,kk ak ak h.i6,kk ak ak h.i7,kk ak ak h.i8⟩
end
theorem fU.get {α:Type} {R:Rel α} {T B j:Nat} {w:World} {U:Nat→Prop} {v:Value} {xs:List α} (h:fU R T B w U v xs) (hk:0<R.k) (hj:j<xs.length):∃ g c cs,v=bW (bY g 0) xs c∧U g∧g<w.heap.size∧R.is w U cs xs[j]∧(∀ i u,cs[i]? =some u→b_ w g (j*R.k+i) u)∧∀ i,w.frozen? (bY g i)=false:=by
 obtain⟨t,hU,hr⟩:=h;obtain⟨g,c,cs,hv,_,hg,_,hE,hc,hf⟩:=hr.get hk hj;subst hv;exact⟨g,c,cs,rfl,hU g rfl,hg,R.mono (hE _ (List.getElem?_eq_getElem hj)) fun b _ q=>q.1,hc,hf⟩
structure Xj (p m B:Nat) (w:World) (a:j6) (s:cK) (done:List ByteArray) (tag:Tag) (wr:World):Prop where
 blk:cN wr p 31 (dU a s)
 res:cN wr (p+1) 31 (BU)
 own:tj B wr a s tag
 set:gQ wr m done
 mark:tag m=(99,0)
 base:p+2≤B∧B≤m
 bZ:Below p w wr
section
variable {p m B:Nat} {w wr w1:World} {a:j6} {s:cK} {done done':List ByteArray} {tag:Tag}
theorem ut99 {b i:Nat} (hi:i<10) (h:UT tag B i b) (ht:tag b=(99,0)):False:=by
 have:=h.2;rw[ht]at this;simp only at this;omega
theorem Xj.keep (h:Xj p m B w a s done tag wr) (hs:wr.heap.size≤w1) (hk:∀ b,b<wr.heap.size→(b<B∨tag b≠(99,0))→w1.heap[b]? =wr.heap[b]?) (ho:w1.os=wr.os∧w1.tape=wr.tape∧w1.output=wr.output) (nj:gQ w1 m done'):Xj p m B w a s done' tag w1:=by
 have hb:=h.base;exact⟨(hk p h.blk.lt (.inl af)).trans h.blk,(hk (p+1) h.res.lt (.inl af)).trans h.res,h.own.keepT fun i hi=>⟨hs,fun b hb' q=>hk b hb' (.inr fun e=>ut99 hi q e)⟩,nj,h.mark,hb,
  ⟨ho.1.trans h.bZ.os,ho.2.1.trans h.bZ.tape,ho.2.2.trans h.bZ.output,aaC h.bZ.size hs,fun b D_=>(hk b (by have:=h.blk.lt;omega) (.inl af)).trans (h.bZ.block b D_)⟩⟩
theorem Xj.WY (h:Xj p m B w a s done tag wr) (hb:Below wr wr w1):Xj p m B w a s done tag w1:=h.keep hb.size (fun b hb' _=>hb.block b hb') ⟨hb.os,hb.tape,hb.output⟩ (h.set.bZ hb h.set.lt)
end
section
variable {p m B g j:Nat} {w wr w1 w2:World} {a:j6} {s:cK} {done:List ByteArray} {tag:Tag}
theorem Xj.put {y:fD} {v0 v1 v2 v3 v4 v5 v6:Value} (h:Xj p m B w a s done tag wr) (hA:a.A5=bY g 0) (hj:j<s.cells.length) (hs:wr.heap.size≤w1) (hk:∀ b,b<wr.heap.size→(b<B∨tag b≠(99,0))→w1.heap[b]? =wr.heap[b]?) (ho:w1.os=wr.os∧w1.tape=wr.tape∧w1.output=wr.output) (nj:gQ w1 m done) (hy:m_.is w1 (fun b=>wr.heap.size≤b) [v0,v1,v2,v3,v4,v5,v6] y):Xj p m B w a {s with cells:=s.cells.set j y} done (Ek tag wr (5,0)) (p9 g (j*7) w1 [(0,v0),(1,v1),(2,v2),(3,v3),(4,v4),(5,v5),(6,v6)]):=by
 have hb:=h.base;have hml:=h.set.lt;have hB:B≤wr.heap.size:=af;have h5:=h.own.i5;rw[hA]at h5;(have hg:UT tag B 5 g:=by obtain⟨t,hU,_⟩:=h5;exact hU g rfl);(have I8:m≠g:=fun e=>by rw[← e]at hg;exact ut99 ak hg h.mark);have h9:=h.keep hs hk ho nj;obtain⟨f1,f2,f3,f4,f5⟩:=oO (g:=g) (o:=j*7) [(0,v0),(1,v1),(2,v2),(3,v3),(4,v4),(5,v5),(6,v6)] w1;have hO:=h.own.set5 hB hA hj (fun i hi=>⟨hs,fun b hb' q=>hk b hb' (.inr fun e=>ut99 hi q e)⟩) hy;have hsc:dU a {s with cells:=s.cells.set j y}=dU a s:=(by unfold dU;simp);refine⟨?_,(f5 (p+1) (by have:=hg.1;omega)).trans h9.res,hO,h9.set.of_block (f5 m I8),by rw[qJ m hml];exact h.mark,hb,⟨f2.trans h9.bZ.os,f3.trans h9.bZ.tape,f4.trans h9.bZ.output,by have:=h9.bZ.size;omega,fun b D_=>(f5 b (by have:=hg.1;omega)).trans (h9.bZ.block b D_)⟩⟩;rw[hsc];exact(f5 p (by have:=hg.1;omega)).trans h9.blk
end
end
end
open Go Go.RowKit Bg Go.Proofs Sh Kb
theorem lB (s:ByteArray) (w:World) (hs:s.size≤maxLen):Calls prog 119 #[bV s] w fun e w'=>e= .returned (.bool (cR s))∧Below w w w':=by
 have HR:=aa (fun W=>n9 s W hs);have HB:=aa (show cR s=((jI s).1==0)from rfl);generalize cR s=r at HB ⊢;go_enter func119,ntmps119;go_wp2_with fail;refine(HR.o _).mono ?_;rintro e w1 ⟨d0,d1,d2,d3,d4,d5,s',A,n,c,t,B,m,cc,rfl,hd,hf,hb⟩;have gT:=aa hb;clear hb hd hf;generalize (jI s).1=z at HB;go_wp2;go_ret;refine⟨cZ HB.o.symm,gT.o.alloc gT.o.size _⟩
theorem rD (n:Int) (w:World):Calls prog 120 #[bU n] w fun e w'=>e= .returned (.bool (eG n))∧w'=w:=by
 have HB:=aa (show eG n=(decide (1≤n)&&decide (n≤1099511627776))from rfl);generalize eG n=r at HB ⊢;by_cases h:1≤n
 (·have h1:decide (1≤n)=true:=aK;rw[h1,Bool.true_and]at HB;clear h;go_enter func120,ntmps120;go_wp2;go_ret;exact⟨cZ HB.o.symm,rfl⟩);have h1:decide (1≤n)=false:=aK;rw[h1,Bool.false_and]at HB;clear h;go_enter func120,ntmps120;go_wp2;go_ret;exact⟨cZ HB.o.symm,rfl⟩
theorem JS (n:Int) (w:World):Calls prog 190 #[bU n] w fun e w'=>e= .returned (.bool (RQ n))∧w'=w:=by
 have HB:=aa (show RQ n=(decide (-1099511627776≤n)&&decide (n≤1099511627776))from rfl);generalize RQ n=r at HB ⊢;by_cases h:-1099511627776≤n
 (·have h1:decide (-1099511627776≤n)=true:=aK;rw[h1,Bool.true_and]at HB;clear h;go_enter func190,ntmps190;go_wp2;go_ret;exact⟨cZ HB.o.symm,rfl⟩);have h1:decide (-1099511627776≤n)=false:=aK;rw[h1,Bool.false_and]at HB;clear h;go_enter func190,ntmps190;go_wp2;go_ret;exact⟨cZ HB.o.symm,rfl⟩
theorem GN:∀ args w,(callFunc 193 args).run prog w= .ok (.enter 193 args) w:=enters_of func193 ah rfl
theorem TZ (s:ByteArray) (w:World) (hs:s.size≤maxLen):Calls prog 193 #[bV s] w fun e w'=>e= .returned (.bool (!dY s))∧∃ n,w'=w.drewN n:=by
 have H:=aa (fun W=>kR s W hs);generalize dY s=r at H ⊢;go_enter func193,ntmps193;go_wp2_with fail;refine(H.o _).mono ?_;rintro e w1 ⟨rfl,rfl⟩;go_wp2;go_ret;exact⟨rfl,0,rfl⟩
theorem pP (A:Option Addr) (c:Nat) (l:List ByteArray) (lo hi:Nat) (w:World) (hsz:∀ x∈l,x.size≤maxLen) (hl:l.length≤maxLen) (hS:Sq iL w Any A l):Calls prog 126 #[bW A l c,bU (lo:Int),bU (hi:Int)] w fun e w'=>e= .returned (.bool (ez l lo hi))∧∃ n,w'=w.drewN n:=by
 have hc:=F6 (fun s=> !dY s) 193 #[] GN A c l w (fun x hx W hW=>TZ x W (hsz x hx)) hl hS;have HB:=aa (show ez l lo hi=(decide ((lo:Int)≤(l.length:Int))&&(decide ((l.length:Int)≤(hi:Int))&& !(l.any fun s=> !dY s)))from by
  unfold ez;rw[← List.not_all_eq_any_not,Bool.not_not,Bool.and_assoc];congr 1
  (·simp);congr 1;simp)
 generalize ez l lo hi=r at HB ⊢;generalize (l.any fun s=> !dY s)=q at HB hc;have HC:=aa hc;clear hc hsz hl hS;generalize (lo:Int)=lo' at HB ⊢;generalize (hi:Int)=hi' at HB ⊢;generalize hn:(l.length:Int)=n at HB;by_cases h:lo'≤n
 ·have h1:decide (lo'≤n)=true:=aK;rw[h1,Bool.true_and]at HB;by_cases h2:n≤hi'
  (·have h3:decide (n≤hi')=true:=aI;rw[h3,Bool.true_and]at HB;clear h h2;go_enter func126,ntmps126;go_wp2_with fail;refine(HC.o).mono ?_;rintro e w1 ⟨rfl,k,rfl⟩;go_wp2;go_ret;exact⟨cZ HB.o.symm,k,rfl⟩);have h3:decide (n≤hi')=false:=aI;rw[h3,Bool.false_and]at HB;clear h h2;go_enter func126,ntmps126;go_wp2;go_ret;exact⟨cZ HB.o.symm,0,rfl⟩
 have h1:decide (lo'≤n)=false:=aK;rw[h1,Bool.false_and]at HB;clear h;go_enter func126,ntmps126;go_wp2;go_ret;exact⟨cZ HB.o.symm,0,rfl⟩
end Go.Proofs.YtfppbjfnllhgcaaGreat
