/- Parts of the proof, packed (ShP to QTail); each theorem bears its own conditions. -/
import Derived.Lib.ItoaNum
import Derived.Shelf.SlicesQ.IndexFunc
import Derived.Maps.AppendAt
import Derived.Deep.AppendLies
import Derived.RegionTactic
import Derived.OwnWalk
import Derived.StillTail
import Derived.Deep.Quiet
import Derived.Test.YtkfofnjfihfgkaaGreatDoorPz01
set_option linter.unusedVariables false
set_option linter.unusedSimpArgs false
set_option maxRecDepth 100000
set_option maxHeartbeats 8000000
open Go.Proofs.Tryz
open Go.Lib renaming hid → aa
theorem aas {p:Prop} (h:p:=by injection e):p:=h
theorem aaj {p:Prop} (h:p:=by rw[h]at hr;cases hr):p:=h
theorem aap {p:Prop} (h:p:=by simpa using hn):p:=h
namespace Sh
open Kb Go.Lib
section
structure Tok where
 kind:Int
 text:ByteArray
 n:Int
deriving DecidableEq
def Rv (s:Bytes):Bytes:=34 :: s.flatMap (fun c=>if c=34∨c=92 then[92,c]else[c])++[34]
def Mx (t:Tok):Bytes:=if t.kind=2 then Rv t.text.data.toList else t.text.data.toList
def jV:List Bytes→Bytes
 |[]=>[]
 |[x]=>x
 |x :: y :: l=>x++32 :: jV (y :: l)
def mS (l:List Tok):Bytes:=jV (l.map Mx)
def lF (l:List UInt8):Tok:=⟨3,bs l,0⟩
def jF (s:ByteArray):Tok:=⟨0,s,0⟩
def yo (s:ByteArray):Tok:=⟨2,s,0⟩
def uN (n:Int):Tok:=⟨1,bs (itoa n),n⟩
def Fi (op:Int):Tok:=
 if op=6 then lF [43]else if op=7 then lF [45]else if op=8 then lF [42]else if op=9 then lF [47]
 else if op=12 then lF [60]else if op=13 then lF [61]else if op=14 then jF (bs [97,110,100])else jF (bs [111,114])
def lG (a:Int×List Tok):List Tok:=if qp a.1||a.1==4||a.1==5 then lF [40] :: a.2++[lF [41]]else a.2
def Gr:List (Int×List Tok)→List Tok
 |[]=>[]
 |[a]=>a.2
 |a :: b :: l=>a.2++lF [44] :: Gr (b :: l)
def Jj (l:List (Int×List Tok)):List Tok:=Gr l++[lF [41]]
def Ez (l:List (Int×List Tok)) (k:Nat):List Tok:=lG (l.getD k (0,[]))
def tu (op n:Int) (unit name:ByteArray) (l:List (Int×List Tok)):List Tok:=
 if op=0 then uN n :: (if fR unit then[]else[yo unit])
 else if op=1 then[jF name]
 else if op=2 then[jF (bs [108,111,111,107]),lF [40],jF name,lF [44]]++Jj l
 else if op=3 then[jF name,lF [40]]++Jj l
 else if op=10 then[jF (bs [109,105,110]),lF [40]]++Jj l
 else if op=11 then[jF (bs [109,97,120]),lF [40]]++Jj l
 else if op=4 then jF (bs [110,111,116]) :: Ez l 0
 else if op=5 then jF (bs [105,102]) :: Ez l 0++jF (bs [116,104,101,110]) :: Ez l 1++jF (bs [101,108,115,101]) :: Ez l 2
 else Ez l 0++Fi op :: Ez l 1
mutual
def iR:cD→List Tok
 | .mk op n unit name l=>tu op n unit name (vo l)
def vo:List cD→List (Int×List Tok)
 |[]=>[]
 |x :: l=>(x.op,iR x) :: vo l
end
def dH (s:ByteArray):Tok:=if mq s.data.toList then jF s else⟨3,s,0⟩
def cm (l:List UInt8):Tok:=dH (bs l)
def mD (word:List UInt8) (name unit:ByteArray):List Tok:=[cm word,dH name,yo unit]
def fK (n:Int):List Tok:=(if n<0 then[cm [45]]else[])++[uN (if n<0 then -n else n)]
def B_ (x:cD):List Tok:=cm [61] :: iR x++[cm [59]]
def eo (x:eL):List Tok:=mD [105,109,112,111,114,116] x.name x.unit++fK x.amount++cm [61] :: fK x.house++[cm [58],dH x.port,cm [58]]++fK x.version++[cm [59]]
def ek (x:gR):List Tok:=mD [105,110,112,117,116] x.name x.unit++(if fR x.kind then[]else[dH x.kind])++[cm [59]]
def rowT (r:ym):List Tok:=fK r.key++cm [58] :: fK r.value++[cm [59]]
def eH (x:eB):List Tok:=mD [116,97,98,108,101] x.name x.unit++cm [123] :: x.rows.flatMap rowT++[cm [125]]
def Gs:Bool→List mX→List Tok
 |_,[]=>[]
 |first,p :: l=>cm (if first then[40]else[44]) :: dH p.name :: yo p.unit :: Gs false l
def gC (x:eU):List Tok:=cm [102,117,110,99] :: dH x.name :: Gs true x.params++cm [41] :: B_ x.body
def eX (x:cL):List Tok:=mD [99,101,108,108] x.name x.unit++B_ x.iY
def iD (x:kO):List Tok:=mD [112,111,114,116] x.name x.unit++fK x.amount++[cm [59]]
def ruleB (n:Int):List UInt8:=if n=0 then[102,105,114,115,116]else if n=1 then[108,97,115,116]else[109,101,97,110]
def storeT (x:jz):List Tok:=mD [115,116,111,114,101] x.name x.unit++[cm (ruleB x.rule),cm [59]]
def dB:Bool→List ByteArray→List Tok
 |_,[]=>[]
 |first,p :: l=>(if first then[]else[cm [44]])++dH p :: dB false l
def rO:Bool→List ByteArray→List ByteArray→List Tok
 |_,[],_=>[]
 |first,p :: l,[]=>(if first then[]else[cm [44]])++dH p :: rO false l []
 |first,p :: l,q :: m=>(if first then[]else[cm [44]])++dH p :: cm [58] :: dH q :: rO false l m
def stepT (x:dV):List Tok:=
 let s:=shapeOf x.kind
 cm s.word :: dB true x.inp++
  (if 0<x.inp.length∧0<x.o.length then[cm [105,110,116,111]]else if x.kind=5∨x.kind=6 then[cm [116,111]]else if x.kind=7 then[cm [97,115]]else[])++
  (if s.cells then rO true x.o x.cells else dB true x.o)++(if x.inp.length=0 then[cm [61]]else[])++(if s.name then[dH x.name]else[])++(if s.wE then fK x.amount else[])++[cm [59]]
def fE (x:cw):List Tok:=cm [114,101,99,105,112,101] :: dH x.kind :: cm [123] :: x.steps.flatMap stepT++[cm [125]]
def iE (s:bY):List Tok:=
 [cm [115,104,101,101,116],dH s.name,cm [123]]++s.imports.flatMap eo++s.inputs.flatMap ek++s.tables.flatMap eH++s.funcs.flatMap gC++s.cells.flatMap eX++
  s.b9.flatMap iD++s.stores.flatMap storeT++s.bX.flatMap fE++[cm [125]]
def yq (s:bY):Option Bytes:=if cN s then(let t:=mS (iE s);if t.length≤4000 then some t else none)else none
def gH:bY:=⟨bs [],[],[],[],[],[],[],[],[]⟩
def er (p s:ByteArray):ByteArray:=p++bs [95]++s
def jQ (op:Int):Bool:=op==1||op==2||op==3
mutual
def kP (p:ByteArray):cD→cD
 | .mk op n unit name l=> .mk op n unit (if jQ op then er p name else name) (kI p l)
def kI (p:ByteArray):List cD→List cD
 |[]=>[]
 |x :: l=>kP p x :: kI p l
end
mutual
def iT:cD→List ByteArray
 | .mk op _ _ name l=>(if jQ op then[name]else[])++yt l
def yt:List cD→List ByteArray
 |[]=>[]
 |x :: l=>iT x++yt l
end
def gz (x:dV):Bool:= !fR x.name&& !(x.kind==7)
def tv (p:ByteArray) (x:dV):dV:=⟨x.kind,x.inp.map (er p),x.o.map (er p),if gz x then er p x.name else x.name,x.cells.map (er p),x.amount⟩
def kj (x:dV):List ByteArray:=x.inp++x.o++x.cells++(if gz x then[x.name]else[])
def bZ (s:bY):List ByteArray:=
 s.imports.map (·.name)++s.inputs.map (·.name)++s.tables.map (·.name)++s.funcs.map (·.name)++s.cells.map (·.name)++s.b9.map (·.name)++s.stores.map (·.name)
def usedNames (s:bY):List ByteArray:=s.bX.flatMap fun r=>r.steps.flatMap kj
def iF (s:bY):List ByteArray:=s.funcs.flatMap (fun f=>f.params.map (·.name)++iT f.body)++s.cells.flatMap fun c=>iT c.iY
def iy (p:ByteArray) (s:bY):bY:=
 ⟨s.name,s.imports.map fun x=>{x with name:=er p x.name},s.inputs.map fun x=>{x with name:=er p x.name},s.tables.map fun x=>{x with name:=er p x.name},
  s.funcs.map fun f=>⟨er p f.name,f.params.map fun q=>⟨er p q.name,q.unit⟩,kP p f.body⟩,s.cells.map fun c=>⟨er p c.name,c.unit,kP p c.iY⟩,
  s.b9.map fun x=>{x with name:=er p x.name},s.stores.map fun x=>{x with name:=er p x.name},s.bX.map fun r=>⟨r.kind,r.steps.map (tv p)⟩⟩
def qq (p:ByteArray) (l:List ByteArray):Bool:=l.any fun s=>decide (20<(er p s).size)
def dG (s:bY) (p:ByteArray):Int×bY:=
 if !cN s|| !cT p then(1,gH)else if qq p (bZ s++usedNames s++iF s)then(6,gH)else(0,iy p s)
def gw (x:cw):List ByteArray:=x.steps.flatMap fun y=>y.inp++y.o
def mF (a b:List ByteArray):Bool:=a.any fun s=>b.contains s
def jf (a b:bY):Bool:=a.funcs.any fun f=>f.params.any fun p=>b.tables.any fun t=>t.name==p.name
def jW:List cw→List cw→List cw×Bool
 |a,[]=>(a,false)
 |a,x :: l=>
  match a.findIdx? (fun y=>y.kind==x.kind)with
  |none=>jW (a++[x]) l
  |some k=>
   let y:=a.getD k ⟨bs [],[]⟩
   let r:=jW (a.set k ⟨y.kind,y.steps++x.steps⟩) l
   (r.1,mF (gw y) (gw x)||r.2)
def eM (a b:bY):Int×bY:=
 if !cN a|| !cN b then(1,gH)else
 let r:=jW a.bX b.bX
 if mF (bZ a) (bZ b)||jf a b||jf b a||r.2 then(5,gH)else
 let out:bY:=⟨a.name,a.imports++b.imports,a.inputs++b.inputs,a.tables++b.tables,a.funcs++b.funcs,a.cells++b.cells,a.b9++b.b9,a.stores++b.stores,r.1⟩
 if cN out then(0,out)else(6,gH)
def mG (l:List cL) (name:ByteArray):Option Nat:=l.findIdx? fun x=>x.name==name
def gS:List ByteArray→List cL→List cL→Int×List cL
 |_,cs,[]=>(0,cs)
 |done,cs,c :: l=>
  if done.contains c.name then(5,[])else
  match mG cs c.name with
  |none=>(4,[])
  |some k=>if(iJ c.unit).2=(iJ ((cs.map (·.unit)).getD k (bs []))).2 then gS (c.name :: done) (cs.set k c) l else(14,[])
def jG (c:cL):Bool:=cI c.unit&&cT c.name&&fj c.iY
def fk (s:bY) (l:List cL):Int×bY:=
 if !cN s|| !l.all jG then(1,gH)else
 let r:=gS [] s.cells l
 if r.1=0 then(0,{s with cells:=r.2})else(r.1,gH)
end
end Sh
namespace Go.Proofs.YtkfofnjfihfgkaaGreatDoor
open Go Go.RowKit Kb Sh
theorem dA {s t:ByteArray} (h:s.data.toList=t.data.toList):s=t:=ByteArray.ext (Array.toList_inj.1 h)
theorem fN {s:ByteArray} {l:List UInt8} (h:¬s=⟨l.toArray⟩):(s.toList==l)=false:=by
 rw[Bool.eq_false_iff,Lib.toList_data];intro e;exact h (dA (eq_of_beq e))
theorem cP {a b:Bool} (h:a=b):Ending.returned (.bool a)= .returned (.bool b):=by rw[h]
theorem Ca (s:ByteArray) (w:World):Calls prog 83 #[bV s] w fun e w'=>e= .returned (.bool (zG s))∧w=w':=by
 by_cases PO:s=⟨#[110,111,116]⟩
 (·subst PO;go_enter func83,ntmps83;go_wp2;go_ret;exact⟨rfl,rfl⟩);by_cases Zj:s=⟨#[105,102]⟩
 (·subst Zj;go_enter func83,ntmps83;go_wp2;go_ret;exact⟨rfl,rfl⟩);by_cases Gt:s=⟨#[116,104,101,110]⟩
 ·subst Gt
  go_enter func83,ntmps83;go_wp2;go_ret;exact⟨rfl,rfl⟩
 by_cases Gu:s=⟨#[101,108,115,101]⟩
 ·subst Gu
  go_enter func83,ntmps83;go_wp2;go_ret;exact⟨rfl,rfl⟩
 by_cases PR:s=⟨#[97,110,100]⟩
 (·subst PR;go_enter func83,ntmps83;go_wp2;go_ret;exact⟨rfl,rfl⟩);by_cases Zk:s=⟨#[111,114]⟩
 (·subst Zk;go_enter func83,ntmps83;go_wp2;go_ret;exact⟨rfl,rfl⟩);by_cases Gv:s=⟨#[108,111,111,107]⟩
 (·subst Gv;go_enter func83,ntmps83;go_wp2;go_ret;exact⟨rfl,rfl⟩);by_cases PS:s=⟨#[109,105,110]⟩
 (·subst PS;go_enter func83,ntmps83;go_wp2;go_ret;exact⟨rfl,rfl⟩);by_cases PT:s=⟨#[109,97,120]⟩
 (·subst PT;go_enter func83,ntmps83;go_wp2;go_ret;exact⟨rfl,rfl⟩);by_cases Gw:s=⟨#[105,110,116,111]⟩
 (·subst Gw;go_enter func83,ntmps83;go_wp2;go_ret;exact⟨rfl,rfl⟩);by_cases Zl:s=⟨#[116,111]⟩
 (·subst Zl;go_enter func83,ntmps83;go_wp2;go_ret;exact⟨rfl,rfl⟩);by_cases Zm:s=⟨#[97,115]⟩
 (·subst Zm;go_enter func83,ntmps83;go_wp2;go_ret;exact⟨rfl,rfl⟩);have e0:(s.toList==[110,111,116])=false:=fN PO;have e1:(s.toList==[105,102])=false:=fN Zj;have e2:(s.toList==[116,104,101,110])=false:=fN Gt
 have e3:(s.toList==[101,108,115,101])=false:=fN Gu
 have e4:(s.toList==[97,110,100])=false:=fN PR;have e5:(s.toList==[111,114])=false:=fN Zk;have e6:(s.toList==[108,111,111,107])=false:=fN Gv;have e7:(s.toList==[109,105,110])=false:=fN PS;have e8:(s.toList==[109,97,120])=false:=fN PT;have e9:(s.toList==[105,110,116,111])=false:=fN Gw;have e10:(s.toList==[116,111])=false:=fN Zl;have e11:(s.toList==[97,115])=false:=fN Zm;have HN:=aa (show zG s=false by
  unfold zG words;rw[Bool.eq_false_iff];intro h;simp only[List.contains_cons,List.contains_nil,Bool.or_false,Bool.or_eq_true,beq_iff_eq]at h;rcases h with h|h|h|h|h|h|h|h|h|h|h|h
  (·exact PO (dA h))
  (·exact Zj (dA h))
  (·exact Gt (dA h))
  (·exact Gu (dA h))
  (·exact PR (dA h))
  (·exact Zk (dA h))
  (·exact Gv (dA h))
  (·exact PS (dA h))
  (·exact PT (dA h))
  (·exact Gw (dA h))
  (·exact Zl (dA h));exact Zm (dA h))
 clear PO Zj Gt Gu PR Zk Gv PS PT Gw Zl Zm;go_enter func83,ntmps83;go_wp2;go_ret;exact⟨cP HN.o.symm,rfl⟩
theorem Rw (s:ByteArray) (w:World) (hs:s.size≤maxLen):Calls prog 203 #[bV s] w fun e w'=>e= .returned (.bool (cT s))∧w=w':=by
 have h1:=fun W=>tr s W hs;have h2:=fun W=>Ca s W;unfold cT;generalize mq s.data.toList=a at h1 ⊢;generalize zG s=b at h2 ⊢;have H1:=aa h1;have H2:=aa h2;clear h1 h2 hs;cases a<;>cases b<;>
  (go_enter func203,ntmps203
   go_wp2_with (first|(go_at_call 82;refine(H1.o _).mono ?_;rintro e w' ⟨rfl,rfl⟩)|(go_at_call 83;refine(H2.o _).mono ?_;rintro e w' ⟨rfl,rfl⟩))
   go_ret
   exact⟨rfl,rfl⟩)
theorem kY (s:ByteArray) (w:World) (hs:s.size≤maxLen):Calls prog 58 #[bV s] w fun e w'=>e= .returned (.bool (cT s))∧w=w':=by
 have h1:=fun W=>tr s W hs;have h2:=fun W=>Ca s W;unfold cT;generalize mq s.data.toList=a at h1 ⊢;generalize zG s=b at h2 ⊢;have H1:=aa h1;have H2:=aa h2;clear h1 h2 hs;cases a<;>cases b<;>
  (go_enter func58,ntmps58
   go_wp2_with (first|(go_at_call 82;refine(H1.o _).mono ?_;rintro e w' ⟨rfl,rfl⟩)|(go_at_call 83;refine(H2.o _).mono ?_;rintro e w' ⟨rfl,rfl⟩))
   go_ret
   exact⟨rfl,rfl⟩)
theorem Jk (s:ByteArray) (w:World) (hs:s.size≤maxLen):Calls prog 27 #[bV s] w fun e w'=>e= .returned (.bool (cT s))∧w=w':=by
 have h1:=fun W=>tr s W hs;have h2:=fun W=>Ca s W;unfold cT;generalize mq s.data.toList=a at h1 ⊢;generalize zG s=b at h2 ⊢;have H1:=aa h1;have H2:=aa h2;clear h1 h2 hs;cases a<;>cases b<;>
  (go_enter func27,ntmps27
   go_wp2_with (first|(go_at_call 82;refine(H1.o _).mono ?_;rintro e w' ⟨rfl,rfl⟩)|(go_at_call 83;refine(H2.o _).mono ?_;rintro e w' ⟨rfl,rfl⟩))
   go_ret
   exact⟨rfl,rfl⟩)
end Go.Proofs.YtkfofnjfihfgkaaGreatDoor
namespace Go.Proofs.YtkfofnjfihfgkaaGreatDoor
open Go Go.RowKit Go.Maps Sh Kb
section
theorem Gx (a b:ByteArray):(a==b)=decide (a=b):=by
 cases a with
 |mk x=>
  cases b with
  |mk y=>
   have h:((ByteArray.mk x)==(ByteArray.mk y))=(x==y):=rfl;rw[h];by_cases e:x=y
   (·subst e;simp);have e2:¬ByteArray.mk x=ByteArray.mk y:=fun k=>e (by injection k);rw[decide_eq_false e2];simpa using e
instance:LawfulBEq ByteArray where
 eq_of_beq h:=by rw[Gx]at h;exact of_decide_eq_true h
 rfl:=fun {a}=>by rw[Gx];simp
def ig (w:World) (g:Nat) (l:List ByteArray):Prop:=
 ∃ D:DataW Value,w.ownsMap prog 9 Ji g l.length D∧Tidy D∧(∀ k:ByteArray,Maps.has D (AO k)=l.contains k)∧(∀ k:ByteArray,l.contains k=true→∀ z,D.atKey (AO k) z= .held (.bool true))∧
  (∀ k:ByteArray,l.contains k=false→∀ z,D.atKey (AO k) z=z)∧(l.Nodup→Maps.size D=l.length)
section
variable {w w':World} {g:Nat} {l:List ByteArray}
theorem ig.made (w:World):ig (w.alloc (.map #[] 0)) w []:=
 ⟨.map [],World.ownsMap_made w _ _ _,⟨[],rfl,by simp⟩,fun k=>rfl,fun k h=>by simp at h,fun k _ z=>rfl,fun _=>rfl⟩
theorem ig.lt (h:ig w g l):g<w.heap.size:=by
 obtain⟨D,h1,_⟩:=h;exact h1.lt
theorem ig.of_block (h:ig w g l) (hb:w'.heap[g]? =w.heap[g]?):ig w' g l:=by
 obtain⟨D,⟨es,clock,hbk,F,hs,hD⟩,h2⟩:=h;exact⟨D,⟨es,clock,hb.trans hbk,F,hs,hD⟩,h2⟩
theorem ig.bU {B:Nat} (h:ig w g l) (hb:Below B w w') (hg:g<B):ig w' g l:=h.of_block (hb.block g hg)
theorem ig.alloc (h:ig w g l) (o:Obj):ig (w.alloc o) g l:=h.bU (cJ _) h.lt
theorem ig.b_ {p:Addr} (h:ig w g l) (hp:g≠p.block) (u:Value):ig (w.setCell p u) g l:=h.of_block (Below.heap_setCell w p u g hp)
theorem Rx (w:World):(zeroValue 4).run prog w= .ok (.bool false) w:=by kernel_rfl
theorem ig.look (h:ig w g l) (k:ByteArray) (hk:k.size≤maxLen):(Instr.lookup 99 (.map (some g)) (bV k) false).run prog w= .ok (.bool (l.contains k)) w:=by
 obtain⟨D,h1,h2,h3,h4,h5,h6⟩:=h;obtain⟨v,ps,hr,hv⟩:=h1.lookup BU Tryz.underlying99 (Rx w) (R:=Ji) (zd:= .held (.bool false)) (zp:=[]) rfl (WideMaps.keyOf_string_mk Tryz.underlying9 hk);rw[hr];simp only[Ji,Option.some.injEq,Prod.mk.injEq]at hv;obtain⟨hv,_⟩:=hv;cases hc:l.contains k with
 |true=>exact DataW.held.inj (hv.trans (h4 k hc _))▸rfl
 |false=>exact DataW.held.inj (hv.trans (h5 k hc _))▸rfl
theorem ig.len (h:ig w g l) (hn:l.Nodup) (ty:TypeId):(Builtin.len_ #[99] ty #[.map (some g)]).run prog w= .ok (bR (l.length:Int)) w:=by
 obtain⟨D,h1,h2,h3,h4,h5,h6⟩:=h;rw[h1.len Tryz.underlying99 ty,h6 hn]
end
section
variable (w:World) {ops:Array Oper} {rest:List Oper} {o:Oper} {a:Act} {Q:Exit→Act→World→Prop}
theorem iG (hg:o.guard=none) (m x v:Operand) (t:TypeId) (hop:o.op=Op.mapUpdate t m x v) (ht:Tryz.prog.underlying t=some (.map 9 4)) (b:Nat) (l:List ByteArray) (hm:a.eval m= .map (some b)) (hown:ig w b l) (hn:l.length<maxLen) (k:ByteArray) (hx:a.eval x=bV k) (hv:a.eval v= .bool true) (hk:k.size≤maxLen) (hK:∀ w',ig w' b (k :: l)→w.grownBy w' (some b)→wpList prog ops Q rest (a.put o.dst undef) w'):wpList prog ops Q (o :: rest) a w:=by
 obtain⟨D,h1,h2,h3,h4,h5,h6⟩:=hown;refine wpList_mapUpdate_own w hg m x v t hop 9 4 BU ht Ji b l.length D hm h1 hn (bV k) (.bool true) (AO k) hx hv (WideMaps.keyOf_string_mk Tryz.underlying9 hk) (.held (.bool true)) [] rfl (fun w' hw hgr=>hK w' ⟨_,hw,h2.put (isKey k) _,fun k'=>?_,fun k' hc z=>?_,fun k' hc z=>?_,fun hnd=>?_⟩ hgr)
 ·by_cases hkk:k'=k
  (·subst hkk;rw[has_put_same h2.isMap (isKey k') _];simp);rw[has_put_other (Gq hkk) _,h3 k'];simp[hkk]
 ·by_cases hkk:k'=k
  (·subst hkk;exact atKey_put_same h2.isMap (isKey k') _ _);rw[atKey_put_other (Gq hkk) _ _];exact h4 k' (by simpa [hkk]using hc) z
 ·by_cases hkk:k'=k
  (·subst hkk;simp at hc);rw[atKey_put_other (Gq hkk) _ _];exact h5 k' (by simpa [hkk]using hc) z
 rw[size_put h2 _,h3 k];rw[List.nodup_cons]at hnd;(have:l.contains k=false:=by simpa using hnd.1);simp[h6 hnd.2,hnd.1]
end
def iL (w:World) (g m:Nat) (l:List ByteArray) (ok:Bool):Prop:=cH w g 111 [.map (some m),.bool ok]∧ig w m l∧g≠m
def Two (g m:Nat) (w w':World):Prop:=w'.os=w.os∧w'.tape=w.tape∧w'.output=w.output∧w.heap.size≤w'∧∀ b,b<w.heap.size→b≠g→b≠m→w'.heap[b]? =w.heap[b]?
theorem Two.refl (g m:Nat) (w:World):Two g m w w:=⟨rfl,rfl,rfl,Nat.le_refl _,fun _ _ _ _=>rfl⟩
theorem Two.trans {g m:Nat} {w w' w'':World} (h:Two g m w w') (k:Two g m w' w''):Two g m w w'':=
 ⟨k.1.trans h.1,k.2.1.trans h.2.1,k.2.2.1.trans h.2.2.1,Nat.le_trans h.2.2.2.1 k.2.2.2.1,fun b hb h1 h2=>(k.2.2.2.2 b (Nat.lt_of_lt_of_le hb h.2.2.2.1) h1 h2).trans (h.2.2.2.2 b hb h1 h2)⟩
theorem Two.cj {g m:Nat} {w w':World} (h:Below w w w'):Two g m w w':=⟨h.os,h.tape,h.output,h.size,fun b hb _ _=>h.block b hb⟩
theorem Two.cW {g m:Nat} {w w':World} (h:w.grownBy w' (some m)):Two g m w w':=⟨h.os,h.tape,h.output,h.size,fun b hb _ hm=>h.block b hb (fun e=>hm aas)⟩
theorem Two.of_set {g m i:Nat} (w:World) (u:Value):Two g m w (w.setCell (bS g i) u):=⟨rfl,rfl,rfl,by simp[World.setCell],fun b hb hg _=>Below.heap_setCell w (bS g i) u b hg⟩
def Zn (g m:Nat) (l:List ByteArray) (nm:ByteArray) (r:Bool) (w:World) (e:Ending) (w':World):Prop:=e= .returned (.tuple #[])∧iL w' g m (nm :: l) r∧Two g m w w'
theorem eV (g m:Nat) (l:List ByteArray) (ok good rt:Bool) (nm:ByteArray) (w:World) (hn:nm.size≤maxLen) (h:iL w g m l ok) (hl:l.length<maxLen):Calls prog 61 #[.pointer (bS g 0),bV nm,.bool good,.bool rt] w (Zn g m l nm (ok&&good&&rt&&cT nm&& !l.contains nm) w):=by
 have HF:=aa (fun W=>kY nm W hn);have rS:=h.1.lt;have hmw:=h.2.1.lt;have hne:=h.2.2;have Rs:¬(m=g):=fun e=>hne e.symm;have HS:=aa h.2.1;have HB:=aa h.1;have a0:bW w g 0 (.map (some m)):=HB.o.cell 0;have a1:bW w g 1 (.bool ok):=HB.o.cell 1;have a1f:w.frozen? (bS g 1)=false:=HB.o.frozen 1;have hlk:=HS.o.look nm hn;generalize cT nm=q at HF ⊢;generalize l.contains nm=c at hlk ⊢;generalize hr:(ok&&good&&rt&&q&& !c)=r;have HP:∀ w',Hid (ig w' m (nm :: l))→Hid ((w.setCell (bS g 1) (.bool r)).grownBy w' (some m))→Zn g m l nm r w (.returned (.tuple #[])) w':=fun w' h1 h2=>
  ⟨rfl,⟨(h2.o.block g (by simpa [World.setCell]using rS) (fun e=>hne aas)).trans (HB.o.cM 1 _),h1.o,hne⟩,(Two.of_set w _).trans (Two.cW h2.o)⟩
 have Jl:=aa HP;have HSS:=aa (HS.o.b_ (p:=bS g 1) Rs (.bool r));generalize hU:Zn g m l nm r w=U at Jl ⊢;clear h HP HB hU;cases ok with
 |false=>
  (obtain rfl:r=false:=by rw[← hr];simp);clear hr;go_enter func61,ntmps61;go_wp2_with (at_mapUpdate;refine iG _ rfl _ _ _ _ rfl Tryz.underlying99 m l rfl HSS.o hl nm rfl rfl hn ?_;intro w2 hs2 hg2;have m_:=aa hs2;have Zo:=aa hg2;clear hs2 hg2);go_wp2_with fail;exact⟨rfl,.tuple #[],results_none rfl _ _ _,Jl.o _ m_ Zo⟩
 |true=>
  cases good with
  |false=>
   (obtain rfl:r=false:=by rw[← hr];simp);clear hr;go_enter func61,ntmps61;go_wp2_with (at_mapUpdate;refine iG _ rfl _ _ _ _ rfl Tryz.underlying99 m l rfl HSS.o hl nm rfl rfl hn ?_;intro w2 hs2 hg2;have m_:=aa hs2;have Zo:=aa hg2;clear hs2 hg2);go_wp2_with fail;exact⟨rfl,.tuple #[],results_none rfl _ _ _,Jl.o _ m_ Zo⟩
  |true=>
   cases rt with
   |false=>
    (obtain rfl:r=false:=by rw[← hr];simp);clear hr;go_enter func61,ntmps61;go_wp2_with (at_mapUpdate;refine iG _ rfl _ _ _ _ rfl Tryz.underlying99 m l rfl HSS.o hl nm rfl rfl hn ?_;intro w2 hs2 hg2;have m_:=aa hs2;have Zo:=aa hg2;clear hs2 hg2);go_wp2_with fail;exact⟨rfl,.tuple #[],results_none rfl _ _ _,Jl.o _ m_ Zo⟩
   |true=>
    cases q with
    |false=>
     (obtain rfl:r=false:=by rw[← hr];simp);clear hr;go_enter func61,ntmps61;go_wp2_with fail;refine(HF.o _).mono ?_;rintro e w1 ⟨rfl,rfl⟩;go_wp2_with (at_mapUpdate;refine iG _ rfl _ _ _ _ rfl Tryz.underlying99 m l rfl HSS.o hl nm rfl rfl hn ?_;intro w2 hs2 hg2;have m_:=aa hs2;have Zo:=aa hg2;clear hs2 hg2);go_wp2_with fail;exact⟨rfl,.tuple #[],results_none rfl _ _ _,Jl.o _ m_ Zo⟩
    |true=>
     (obtain rfl:r= !c:=by rw[← hr];simp);clear hr;go_enter func61,ntmps61;go_wp2_with fail;refine(HF.o _).mono ?_;rintro e w1 ⟨rfl,rfl⟩;go_wp2_with (at_mapUpdate;refine iG _ rfl _ _ _ _ rfl Tryz.underlying99 m l rfl HSS.o hl nm rfl rfl hn ?_;intro w2 hs2 hg2;have m_:=aa hs2;have Zo:=aa hg2;clear hs2 hg2);go_wp2_with fail;exact⟨rfl,.tuple #[],results_none rfl _ _ _,Jl.o _ m_ Zo⟩
end
end Go.Proofs.YtkfofnjfihfgkaaGreatDoor
namespace Go.Proofs
open Go.Shelf Go.RowKit Go.Lib
section
variable {α:Type}
def II (enc:α→List Value) (k:Nat) (w:World) (A:Option Addr) (xs:List α):Prop:=
 xs≠[]→∃ b off,A=bS b off∧b<w.heap.size∧∀ j x,xs[j]? =some x→∀ i v,(enc x)[i]? =some v→bW w b (off+j*k+i) v
section
variable {enc:α→List Value} {k:Nat} {w w':World} {A:Option Addr} {xs:List α}
theorem II.nil:II enc k w A []:=fun h=>absurd rfl h
theorem II.bU (h:II enc k w A xs) (hb:Below w w w'):II enc k w' A xs:=fun hn=>by
 obtain⟨b,off,e,hlt,hc⟩:=h hn;exact⟨b,off,e,Nat.lt_of_lt_of_le hlt hb.size,fun j x hx i v hv=>(hb.cell (p:=bS b (off+j*k+i)) hlt).trans (hc j x hx i v hv)⟩
theorem II.alloc (h:II enc k w A xs) (o:Obj):II enc k (w.alloc o) A xs:=h.bU (cJ _)
theorem II.drew (h:II enc k w A xs):II enc k w.drew A xs:=h
theorem II.drewN (h:II enc k w A xs) (n:Nat):II enc k (w.drewN n) A xs:=h
end
def My (P:Program) (g:Nat) (lb:Array Value) (enc:α→Value) (p:α→Bool) (xs:List α) (w:World):Prop:=
 ∀ (W:World) (x:α),x∈xs→Below w w W→Calls P g (#[enc x]++lb) W fun e w'=>e= .returned (.bool (p x))∧Below w w w'
open Classical in
noncomputable def clip (xs:List α) (d x:α):α:=if x∈xs then x else d
theorem Jm {xs:List α} {d:α} (hd:d∈xs) (x:α):clip xs d x∈xs:=by
 unfold clip;split
 (·assumption);exact hd
theorem wG {xs:List α} {d x:α} (hx:x∈xs):clip xs d x=x:=by unfold clip;rw[if_pos hx]
theorem UB {xs:List α} {d:α} (p:α→Bool):(xs.any fun x=>p (clip xs d x))=xs.any p:=by
 rw[Bool.eq_iff_iff,List.any_eq_true,List.any_eq_true];constructor
 (·rintro⟨x,hx,h⟩;exact⟨x,hx,by rw[wG hx]at h;exact h⟩);rintro⟨x,hx,h⟩;exact⟨x,hx,by rw[wG hx];exact h⟩
theorem tA {xs:List α} {d:α} (p:α→Bool) (y:α):∀ (l:List α) (n:Nat),(∀ x∈l,x∈xs)→Lib.idxByFrom (fun _ x=>p (clip xs d x)) y l n=Lib.idxByFrom (fun _ x=>p x) y l n
 |[],_,_=>rfl
 |a :: l,n,h=>by
  have ih:=tA (d:=d) p y l (n+1) (fun x hx=>h x (List.mem_cons_of_mem _ hx));have ha:clip xs d a=a:=wG (h a aj);simp only[Lib.idxByFrom,ih,ha]
theorem Mz {xs:List α} {d:α} (p:α→Bool) (y:α) (l:List α) (h:∀ x∈l,x∈xs):Lib.idxBy (fun _ x=>p (clip xs d x)) l y=Lib.idxBy (fun _ x=>p x) l y:=
 tA p y l 0 h
variable {P:Program} {ρ:Ren} [Inhabited α]
theorem Jn (L:SlLaysH0.n8 P ρ) (k:Nat) (aE:∀ w,(isAgg (ρ.t 23)).run P w= .ok true w) (zE:∀ w,(Go.sizeOf (ρ.t 23)).run P w= .ok k w) (enc:α→List Value) (hk:∀ x,(enc x).length=k) (p:α→Bool) (g:Nat) (lb:Array Value) (eg:∀ args w,(callFunc g args).run P w= .ok (.enter g args) w) (A:Option Addr) (c:Nat) (xs:List α) (w:World) (hp:My P g lb (fun x=> .agg (enc x).toArray) p xs w) (hbig:xs.length≤9223372036854775807) (hl:II enc k w A xs) (hne:xs≠[]):Calls P (ρ.f 8) #[bQ A xs c,.func (.func g) #[] lb] w fun e w'=>e= .returned (.bool (xs.any p))∧Below w w w':=by
 obtain⟨b,off,rfl,hlt,hc⟩:=hl hne;obtain⟨d,l,rfl⟩:∃ d l,xs=d :: l:=by cases xs with
  |nil=>exact absurd rfl hne
  |cons d l=>exact⟨d,l,rfl⟩
 have hd:d∈d :: l:=aj;have h:=AnyQ.slices_ContainsFunc L k aE zE (fun x=>enc (clip (d :: l) d x)) (fun x=>hk _) (fun x=>p (clip (d :: l) d x)) g lb eg b off (d :: l).length c (d :: l) w
  (fun W x hb=>hp W (clip (d :: l) d x) (Jm hd x) hb) (Nat.le_refl _) hbig hlt
  (fun j hj i v hv=>by
   rw[getElem!_pos (d :: l) j hj,wG (List.getElem_mem hj)]at hv;exact hc j _ (List.getElem?_eq_getElem hj) i v hv)
 rw[List.take_length,UB]at h;exact h
theorem UC (L:SlLaysH0.n6 P ρ) (k:Nat) (aE:∀ w,(isAgg (ρ.t 23)).run P w= .ok true w) (zE:∀ w,(Go.sizeOf (ρ.t 23)).run P w= .ok k w) (enc:α→List Value) (hk:∀ x,(enc x).length=k) (p:α→Bool) (g:Nat) (lb:Array Value) (eg:∀ args w,(callFunc g args).run P w= .ok (.enter g args) w) (A:Option Addr) (c:Nat) (xs:List α) (w:World) (hp:My P g lb (fun x=> .agg (enc x).toArray) p xs w) (hbig:xs.length≤9223372036854775807) (hl:II enc k w A xs) (hne:xs≠[]):Calls P (ρ.f 6) #[bQ A xs c,.func (.func g) #[] lb] w fun e w'=>e= .returned (bR (Lib.idxBy (fun _ y=>p y) xs default))∧Below w w w':=by
 obtain⟨b,off,rfl,hlt,hc⟩:=hl hne;obtain⟨d,l,rfl⟩:∃ d l,xs=d :: l:=by cases xs with
  |nil=>exact absurd rfl hne
  |cons d l=>exact⟨d,l,rfl⟩
 have hd:d∈d :: l:=aj;have h:=AnyQ.slices_IndexFunc L k aE zE (fun x=>enc (clip (d :: l) d x)) (fun x=>hk _) (fun x=>p (clip (d :: l) d x)) g lb eg b off (d :: l).length c (d :: l) w
  (fun W x hb=>hp W (clip (d :: l) d x) (Jm hd x) hb) (Nat.le_refl _) hbig hlt
  (fun j hj i v hv=>by
   rw[getElem!_pos (d :: l) j hj,wG (List.getElem_mem hj)]at hv;exact hc j _ (List.getElem?_eq_getElem hj) i v hv)
 rw[List.take_length,Mz p default (d :: l) (fun x hx=>hx)]at h;exact h
end
end Go.Proofs
namespace Go.Proofs.YtkfofnjfihfgkaaGreatDoor
open Go Go.RowKit
section
theorem Gy (a:Addr) (n:Nat):(a.add n).block=a.block:=by unfold Addr.add;split<;>rfl
def Reads (w:World) (B size:Nat) (A:Option Addr) (n:Nat) (xs:List Value):Prop:=
 xs.length=n*size∧(0<n→∃ ad,A=some ad∧ad.block<B∧∀ j u,xs[j]? =some u→w.cell? (ad.add j)=some u)
section
variable {w w':World} {B B' size n:Nat} {A:Option Addr} {xs:List Value}
theorem Reads.none_:Reads w B size A 0 []:=⟨by simp,fun h=>absurd h af⟩
theorem Reads.at_ {k:Nat} (h:Reads w B 1 A n xs) (hk:k<n):∃ ad u,A=some ad∧ad.block<B∧xs[k]? =some u∧w.cell? (ad.add k)=some u:=by
 obtain⟨ad,e,hb,hc⟩:=h.2 af;(have hl:k<xs.length:=by have:=h.1;omega);exact⟨ad,xs[k],e,hb,List.getElem?_eq_getElem hl,hc k _ (List.getElem?_eq_getElem hl)⟩
theorem Reads.keep (h:Reads w B size A n xs) (hk:∀ p:Addr,p.block<B→w'.cell? p=w.cell? p):Reads w' B size A n xs:=
 ⟨h.1,fun hn=>by
  obtain⟨ad,e,hb,hc⟩:=h.2 hn;exact⟨ad,e,hb,fun j u hu=>(hk _ (by rw[Gy];exact hb)).trans (hc j u hu)⟩⟩
theorem Reads.more (h:Reads w B size A n xs) (hB:B≤B'):Reads w B' size A n xs:=
 ⟨h.1,fun hn=>by
  obtain⟨ad,e,hb,hc⟩:=h.2 hn;exact⟨ad,e,by omega,hc⟩⟩
theorem Reads.bU (h:Reads w B size A n xs) (hb:Below B w w'):Reads w' B size A n xs:=h.keep fun _ hp=>hb.cell hp
theorem Reads.drew (h:Reads w B size A n xs):Reads w.drew B size A n xs:=h
theorem Reads.drewN (h:Reads w B size A n xs) (k:Nat):Reads (w.drewN k) B size A n xs:=h
theorem Reads.alloc (h:Reads w B size A n xs) (hB:B≤w.heap.size) (o:Obj):Reads (w.alloc o) B size A n xs:=h.keep fun p hp=>World.cell?_alloc_lt w o p af
theorem Reads.setCell (h:Reads w B size A n xs) {p:Addr} (hB:B≤p.block) (u:Value):Reads (w.setCell p u) B size A n xs:=
 h.keep fun q hq=>World.cell?_setCell_other w p q u (fun e=>by subst e;omega)
theorem Reads.grown (h:Reads w B size A n xs) {row:Option Nat} (hg:w.grownBy w' row) (hB:B≤w.heap.size) (hr:∀ g,row=some g→B≤g):Reads w' B size A n xs:=
 h.keep fun p hp=>World.cell?_of_block (hg.block p.block af (fun e=>by have:=hr _ e.symm;omega))
end
section
variable {P:Program} (w:World)
theorem wH (base:Nat) (t ty e:TypeId) (i:TypeInfo) (size:Nat) (ht:P.underlying t=some (.slice e)) (hi:P.info? e=some i) (v:Value) (n:Nat) (xs:List Value) (hown:w.ownsRow base e size v n xs) (c:Nat):(Builtin.append_ #[t,t] ty #[v,bQ none 0 c]).run P w= .ok v w:=by
 rcases hown.2 with⟨rfl,rfl⟩|⟨g,cap,cur,rfl,_,_,hnc,_⟩
 (·simp[Builtin.append_,run_underlying ht,sizeOf,typeInfo,hi,Builtin.lenOf,Builtin.firstCells]);simp[Builtin.append_,run_underlying ht,sizeOf,typeInfo,hi,Builtin.lenOf,Builtin.firstCells,hnc,storeCells]
theorem Cb (base:Nat) (t ty e:TypeId) (i:TypeInfo) (z:Value) (size bytes:Nat) (ht:P.underlying t=some (.slice e)) (hi:P.info? e=some i) (hz:i.zero=some z) (hsize:i.size=size) (hby:i.bytes=bytes) (hzs:z.cells.size=size) (hsz:0<size) (v:Value) (n:Nat) (xs:List Value) (hown:w.ownsRow base e size v n xs) (B:Nat) (A:Option Addr) (m c:Nat) (news:List Value) (hr:Reads w B size A m news) (h1:∀ u∈news,u.oneCell'=true) (h63:n+m≤maxLen) (hbytes:(n+m)*bytes≤140737488355328) (hbase:base≤w.heap.size):∃ v' w',(Builtin.append_ #[t,t] ty #[v,bQ A m c]).run P w= .ok v' w'∧w'.ownsRow base e size v' (n+m) (xs++news)∧w.grownBy w' v.ownBlock∧(v'.ownBlock=v.ownBlock∨v'.ownBlock=some w.heap.size):=by
 rcases A with _|ad
 ·have hm:m=0:=by
   rcases Nat.eq_zero_or_pos m with h0|h0
   (·exact h0);obtain⟨ad,h,_⟩:=hr.2 h0;cases h
  subst hm;have hn:news=[]:=List.eq_nil_of_length_eq_zero (by simpa using hr.1);subst hn;exact⟨v,w,wH w base t ty e i size ht hi v n xs hown c,by simpa using hown,World.grownBy.refl w _,.inl rfl⟩
 have hcells:∀ j u,news[j]? =some u→w.cell? (ad.add j)=some u:=by
  intro j u hu;rcases Nat.eq_zero_or_pos m with h0|h0
  (·subst h0;have hn:news=[]:=List.eq_nil_of_length_eq_zero (by simpa using hr.1);subst hn;simp at hu);obtain⟨ad',h,_,hc⟩:=hr.2 h0;injection h with h;subst h;exact hc j u hu
 obtain⟨v',w',hrun,h2,h3,_,h5⟩:=run_append_own_at (P:=P) w base t ty e i z size bytes ht hi hz hsize hby hzs hsz v n xs hown ad m c news hr.1 hcells h1 h63 hbytes hbase;exact⟨v',w',hrun,h2,h3,h5⟩
theorem nS {o:Oper} {a:Act} {K:Act→World→Prop} {Q:Exit→Act→World→Prop} (s x:Operand) (t:TypeId) (ho:o.op= .call {callee:= .builtin .append,args:=#[s,x],argTypes:=#[t,t]}) (base:Nat) (e:TypeId) (i:TypeInfo) (z:Value) (size bytes:Nat) (ht:P.underlying t=some (.slice e)) (hi:P.info? e=some i) (hz:i.zero=some z) (hsize:i.size=size) (hby:i.bytes=bytes) (hzs:z.cells.size=size) (hsz:0<size) (v:Value) (n:Nat) (xs:List Value) (hs:a.eval s=v) (hown:w.ownsRow base e size v n xs) (B:Nat) (A:Option Addr) (m c:Nat) (news:List Value) (hx:a.eval x=bQ A m c) (hr:Reads w B size A m news) (h1:∀ u∈news,u.oneCell'=true) (h63:n+m≤maxLen) (hbytes:(n+m)*bytes≤140737488355328) (hbase:base≤w.heap.size) (h:∀ v' w',w'.ownsRow base e size v' (n+m) (xs++news)→w.grownBy w' v.ownBlock→(v'.ownBlock=v.ownBlock∨v'.ownBlock=some w.heap.size)→K (a.put o.dst v') w'):o.wp P a w K Q:=by
 obtain⟨v',w',hrun,h2,h3,h4⟩:=Cb (P:=P) w base t o.type e i z size bytes ht hi hz hsize hby hzs hsz v n xs hown B A m c news hr h1 h63 hbytes hbase;unfold Oper.wp execOp;simp only[ho,resolve,invoke,builtin,Sem.run_bind,Sem.run_pure,Result.andThen_ok,List.map_toArray,List.map_cons,List.map_nil,hs,hx,hrun];exact h v' w' h2 h3 h4
theorem eZ {ops:Array Oper} {rest:List Oper} {o:Oper} {a:Act} {Q:Exit→Act→World→Prop} (hgd:o.guard=none) (s x:Operand) (t:TypeId)
 (ho:o.op= .call {callee:= .builtin .append,args:=#[s,x],argTypes:=#[t,t]})
 (base:Nat) (e:TypeId) (i:TypeInfo) (z:Value) (size bytes:Nat) (ht:P.underlying t=some (.slice e)) (hi:P.info? e=some i) (hz:i.zero=some z)
 (hsize:i.size=size) (hby:i.bytes=bytes) (hzs:z.cells.size=size) (hsz:0<size)
 (v:Value) (n:Nat) (xs:List Value) (hs:a.eval s=v) (hown:w.ownsRow base e size v n xs)
 (B:Nat) (A:Option Addr) (m c:Nat) (news:List Value) (hx:a.eval x=bQ A m c) (hr:Reads w B size A m news) (h1:∀ u∈news,u.oneCell'=true)
 (h63:n+m≤maxLen) (hbytes:(n+m)*bytes≤140737488355328) (hbase:base≤w.heap.size)
 (h:∀ v' w',w'.ownsRow base e size v' (n+m) (xs++news)→w.grownBy w' v.ownBlock→(v'.ownBlock=v.ownBlock∨v'.ownBlock=some w.heap.size)→wpList P ops Q rest (a.put o.dst v') w'):wpList P ops Q (o :: rest) a w:=
 wpList_plain hgd fun _ hK=>nS w s x t ho base e i z size bytes ht hi hz hsize hby hzs hsz v n xs hs hown B A m c news hx hr h1 h63 hbytes hbase fun v' w' h2 h3 h4=>hK _ _ (h v' w' h2 h3 h4)
theorem AP {ops:Array Oper} {o:Oper} {a:Act} {K:Act→World→Prop} {Q:Exit→Act→World→Prop} {E:Prop} (hgd:o.guard=none) (s x:Operand) (t:TypeId) (ho:o.op= .call {callee:= .builtin .append,args:=#[s,x],argTypes:=#[t,t]}) (base:Nat) (e:TypeId) (i:TypeInfo) (z:Value) (size bytes:Nat) (ht:P.underlying t=some (.slice e)) (hi:P.info? e=some i) (hz:i.zero=some z) (hsize:i.size=size) (hby:i.bytes=bytes) (hzs:z.cells.size=size) (hsz:0<size) (v:Value) (n:Nat) (xs:List Value) (hs:a.eval s=v) (hown:w.ownsRow base e size v n xs) (B:Nat) (A:Option Addr) (m c:Nat) (news:List Value) (hx:a.eval x=bQ A m c) (hr:Reads w B size A m news) (h1:∀ u∈news,u.oneCell'=true) (h63:n+m≤maxLen) (hbytes:(n+m)*bytes≤140737488355328) (hbase:base≤w.heap.size) (h:∀ v' w',w'.ownsRow base e size v' (n+m) (xs++news)→w.grownBy w' v.ownBlock→(v'.ownBlock=v.ownBlock∨v'.ownBlock=some w.heap.size)→K (a.put o.dst v') w'):if Region.wanted o (yielded ops a.tmps)=true then Oper.wp P o a w K Q else E:=by
 have hw:Region.wanted o (yielded ops a.tmps)=true:=(by simp[Region.wanted,hgd]);rw[if_pos hw];exact nS w s x t ho base e i z size bytes ht hi hz hsize hby hzs hsz v n xs hs hown B A m c news hx hr h1 h63 hbytes hbase h
end
section
variable {α:Type} {enc:α→List Value} {k:Nat}
theorem Jo (hk:∀ x,(enc x).length=k):∀ xs:List α,(xs.flatMap enc).length=xs.length*k
 |[]=>by simp
 |x :: l=>by
  have:=Jo hk l;simp only[List.flatMap_cons,List.length_append,List.length_cons,Nat.succ_mul,hk x,this];omega
theorem Jp (hk:∀ x,(enc x).length=k):∀ (xs:List α) (j:Nat) (u:Value),(xs.flatMap enc)[j]? =some u→∃ i c x,j=i*k+c∧xs[i]? =some x∧(enc x)[c]? =some u
 |[],j,u,h=>by simp at h
 |x :: l,j,u,h=>by
  rw[List.flatMap_cons]at h;by_cases hj:j<k
  (·rw[List.getElem?_append_left (by rw[hk x];exact hj)]at h;exact⟨0,j,x,by simp,rfl,h⟩);rw[List.getElem?_append_right (by rw[hk x];omega),hk x]at h;obtain⟨i,c,y,e,hy,hc⟩:=Jp hk l _ u h;exact⟨i+1,c,y,by rw[Nat.succ_mul];omega,by simpa using hy,hc⟩
theorem nT (hk:∀ x,(enc x).length=k):∀ (xs:List α) (i c:Nat) (x:α) (u:Value),xs[i]? =some x→(enc x)[c]? =some u→(xs.flatMap enc)[i*k+c]? =some u
 |[],i,c,x,u,h,_=>by simp at h
 |y :: l,0,c,x,u,h,hu=>by
  simp at h;subst h;have hc:c<(enc y).length:=(List.getElem?_eq_some_iff.1 hu).1;rw[List.flatMap_cons,Nat.zero_mul,Nat.zero_add,List.getElem?_append_left hc];exact hu
 |y :: l,i+1,c,x,u,h,hu=>by
  rw[List.flatMap_cons,List.getElem?_append_right (by rw[hk y,Nat.succ_mul];omega),hk y,show(i+1)*k+c - k=i*k+c by rw[Nat.succ_mul];omega];exact nT hk l i c x u aO hu
end
end
end Go.Proofs.YtkfofnjfihfgkaaGreatDoor
namespace Go.Proofs.YtkfofnjfihfgkaaGreatDoor
open Go Go.RowKit Go.Proofs
section
def cA (S:Nat→Prop) (w w':World):Prop:=w.heap.size≤w'∧∀ b,b<w.heap.size→S b→w'.heap[b]? =w.heap[b]?
theorem cA.refl (S:Nat→Prop) (w:World):cA S w w:=⟨Nat.le_refl _,fun _ _ _=>rfl⟩
theorem cA.trans {S:Nat→Prop} {a b c:World} (h:cA S a b) (k:cA S b c):cA S a c:=
 ⟨Nat.le_trans h.1 k.1,fun i hi hs=>(k.2 i (Nat.lt_of_lt_of_le hi h.1) hs).trans (h.2 i hi hs)⟩
theorem cA.cj {S:Nat→Prop} {w w':World} (h:Below w w w'):cA S w w':=⟨h.size,fun b hb _=>h.block b hb⟩
theorem cA.Zp {S:Nat→Prop} {B:Nat} {w w':World} (h:Below B w w') (hs:∀ b,S b→b<B):cA S w w':=⟨h.size,fun b _ hb=>h.block b (hs b hb)⟩
theorem cA.cW {S:Nat→Prop} {w w':World} {row:Option Nat} (h:w.grownBy w' row) (hs:∀ b,S b→some b≠row):cA S w w':=⟨h.size,fun b hb k=>h.block b hb (hs b k)⟩
structure Dat (α:Type) where
 cells:α→List Value
 k:Nat
 len:∀ x,(cells x).length=k
 one:∀ x,∀ v∈cells x,v.oneCell'=true
 ok:World→(Nat→Prop)→α→Prop
 keep:∀ {w w':World} {S:Nat→Prop} {x:α},ok w S x→cA S w w'→ok w' S x
 mono:∀ {w:World} {S S':Nat→Prop} {x:α},ok w S x→(∀ b,b<w.heap.size→S b→S' b)→ok w S' x
section
variable {α:Type} {D:Dat α} {w w':World} {S S':Nat→Prop} {A:Option Addr} {xs:List α}
def Sl (D:Dat α) (w:World) (S:Nat→Prop) (A:Option Addr) (xs:List α):Prop:=
 (xs≠[]→∃ b off,A=bS b off∧S b∧b<w.heap.size∧∀ j x,xs[j]? =some x→∀ i v,(D.cells x)[i]? =some v→bW w b (off+j*D.k+i) v)∧∀ x∈xs,D.ok w S x
theorem Sl.nil:Sl D w S A []:=⟨fun h=>absurd rfl h,fun x hx=>by simp at hx⟩
theorem Sl.keep (h:Sl D w S A xs) (hk:cA S w w'):Sl D w' S A xs:=
 ⟨fun hn=>by
  obtain⟨b,off,e,hs,hlt,hc⟩:=h.1 hn;exact⟨b,off,e,hs,Nat.lt_of_lt_of_le hlt hk.1,fun j x hx i v hv=>(World.cell?_of_block (a:=bS b (off+j*D.k+i)) (hk.2 b hlt hs)).trans (hc j x hx i v hv)⟩,fun x hx=>D.keep (h.2 x hx) hk⟩
theorem Sl.bU (h:Sl D w S A xs) (hb:Below w w w'):Sl D w' S A xs:=h.keep (cA.cj hb)
theorem Sl.mono (h:Sl D w S A xs) (hs:∀ b,b<w.heap.size→S b→S' b):Sl D w S' A xs:=
 ⟨fun hn=>by
  obtain⟨b,off,e,h1,hlt,hc⟩:=h.1 hn;exact⟨b,off,e,hs b hlt h1,hlt,hc⟩,fun x hx=>D.mono (h.2 x hx) hs⟩
theorem Sl.all (h:Sl D w S A xs):Sl D w (fun _=>True) A xs:=h.mono fun _ _ _=>trivial
theorem Sl.lst (h:Sl D w S A xs):II D.cells D.k w A xs:=fun hn=>by
 obtain⟨b,off,e,_,hlt,hc⟩:=h.1 hn;exact⟨b,off,e,hlt,hc⟩
theorem Sl.get (h:Sl D w S A xs) {j:Nat} (hj:j<xs.length):∃ b off,A=bS b off∧S b∧b<w.heap.size∧D.ok w S xs[j]∧∀ i v,(D.cells xs[j])[i]? =some v→bW w b (off+j*D.k+i) v:=by
 obtain⟨b,off,e,hs,hlt,hc⟩:=h.1 (fun e=>by subst e;simp at hj);exact⟨b,off,e,hs,hlt,h.2 _ (List.getElem_mem hj),fun i v hv=>hc j _ (List.getElem?_eq_getElem hj) i v hv⟩
theorem Sl.take (h:Sl D w S A xs) (n:Nat):Sl D w S A (xs.take n):=by
 refine⟨fun hn=>?_,fun x hx=>h.2 x (List.mem_of_mem_take hx)⟩;obtain⟨b,off,e,hs,hlt,hc⟩:=h.1 (fun e=>by subst e;simp at hn);refine⟨b,off,e,hs,hlt,fun j x hx i v hv=>hc j x ?_ i v hv⟩;rw[List.getElem?_take]at hx;split at hx
 (·exact hx);cases hx
theorem Sl.drop {b off:Nat} (h:Sl D w S (bS b off) xs) (n:Nat):Sl D w S (bS b (off+n*D.k)) (xs.drop n):=
 ⟨fun hn=>by
  obtain⟨b',off',e,hs,hlt,hc⟩:=h.1 (fun e=>by subst e;simp at hn);injection e with e;injection e with e1 e2;subst e1 e2;refine⟨b,_,rfl,hs,hlt,fun j x hx i v hv=>?_⟩;have:=hc (n+j) x (by rw[← hx,List.getElem?_drop]) i v hv;rw[show off+n*D.k+j*D.k+i=off+(n+j)*D.k+i by rw[Nat.add_mul];omega];exact this,fun x hx=>h.2 x (List.mem_of_mem_drop hx)⟩
end
section
variable {α:Type} {D:Dat α} {w w' W:World} {S S':Nat→Prop} {v v':Value} {xs ys:List α} {B T:Nat}
theorem rT {e size n:Nat} {us:List Value} (h:w.ownsRow B e size v n us) (hb:Below w w w'):w'.ownsRow B e size v n us:=by
 refine⟨h.1,?_⟩;rcases h.2 with h1|⟨g,cap,cur,rfl,hB,hg,rest⟩
 (·exact .inl h1);refine .inr ⟨g,cap,cur,rfl,hB,?_,rest⟩;rw[hb.block g (Array.getElem?_eq_some_iff.1 hg).1];exact hg
theorem nV {e size n:Nat} {us:List Value} (h:w.ownsRow B e size v n us) (g:Nat) (hg:v.ownBlock=some g):B≤g∧g<w.heap.size:=by
 rcases h.2 with⟨rfl,_⟩|⟨g',cap,cur,rfl,hb,hh,_⟩
 (·simp[Value.ownBlock]at hg);(have:g'=g:=by simpa [Value.ownBlock]using hg);subst this;exact⟨hb,(Array.getElem?_eq_some_iff.1 hh).1⟩
theorem iU {e size n:Nat} {us:List Value} (h:w.ownsRow B e size v n us):∃ A c,v=bQ A n c∧n≤c∧c≤maxLen:=by
 rcases h.2 with⟨h,hn⟩|⟨g,cap,cur,h,_,_,h1,h2,_⟩
 (·exact⟨none,0,by rw[h,hn],by omega,Nat.zero_le _⟩);exact⟨_,_,h,h1,h2⟩
def wI (D:Dat α) (T B:Nat) (w:World) (S:Nat→Prop) (v:Value) (xs:List α):Prop:=
 w.ownsRow B T D.k v xs.length (xs.flatMap D.cells)∧∀ x∈xs,D.ok w (fun b=>S b∧some b≠v.ownBlock) x
theorem wI.pW:wI D T B w S cG []:=⟨⟨by simp,.inl ⟨rfl,rfl⟩⟩,fun x hx=>by simp at hx⟩
theorem wI.empty (hB:B≤w.heap.size) (t:Nat) (ht:t=T):wI D T B (w.alloc (.cells #[] t)) S (bQ (bS w 0) 0 0) []:=by
 subst ht;exact⟨⟨by simp,.inr ⟨w.heap.size,0,#[],rfl,hB,heap_alloc_new w _,Nat.le_refl _,Nat.zero_le _,by simp,by simp⟩⟩,fun x hx=>by simp at hx⟩
theorem wI.bU (h:wI D T B w S v xs) (hb:Below w w w'):wI D T B w' S v xs:=⟨rT h.1 hb,fun x hx=>D.keep (h.2 x hx) (cA.cj hb)⟩
theorem wI.mono (h:wI D T B w S v xs) (hs:∀ b,b<w.heap.size→S b→S' b):wI D T B w S' v xs:=⟨h.1,fun x hx=>D.mono (h.2 x hx) fun b hb q=>⟨hs b hb q.1,q.2⟩⟩
theorem wI.slice (h:wI D T B w S v xs):∃ A c,v=bQ A xs c∧xs.length≤c∧c≤maxLen:=iU h.1
theorem wI.more {news:List α} {nv:List Value} {n:Nat} (h2:∀ x∈xs,D.ok W (fun b=>S b∧some b≠v.ownBlock) x) (hn:∀ x∈news,D.ok W (fun b=>S b∧some b≠v.ownBlock) x) (hnv:nv=news.flatMap D.cells) (hnn:n=news.length) (ho:w'.ownsRow B T D.k v' (xs.length+n) (xs.flatMap D.cells++nv)) (hg:W.grownBy w' v.ownBlock) (hat:v'.ownBlock=v.ownBlock∨v'.ownBlock=some W.heap.size):wI D T B w' S v' (xs++news):=by
 subst hnv hnn;refine⟨by simpa using ho,fun x hx=>?_⟩;have hx':D.ok W (fun b=>S b∧some b≠v.ownBlock) x:=by
  rcases List.mem_append.1 hx with h|h
  (·exact h2 x h);exact hn x h
 have h1:D.ok W (fun b=>(S b∧some b≠v.ownBlock)∧some b≠v'.ownBlock) x:=D.mono hx' fun b hb q=>⟨q,by
  rcases hat with e|e
  (·rw[e];exact q.2);rw[e];intro e2;injection e2 with e2;omega⟩
 exact D.mono (D.keep h1 (cA.cW hg fun b q=>q.1.2)) fun b _ q=>⟨q.1.1,q.2⟩
end
end
section
abbrev Any (_:Nat):Prop:=True
def Rows (w:World) (S:Nat→Prop) (A:Option Addr) (k:Nat) (css:List (List Value)):Prop:=
 css≠[]→∃ b off,A=bS b off∧S b∧b<w.heap.size∧∀ j cs,css[j]? =some cs→∀ i v,cs[i]? =some v→bW w b (off+j*k+i) v
section
variable {w w':World} {S S':Nat→Prop} {A:Option Addr} {k:Nat} {css:List (List Value)}
theorem Rows.keep (h:Rows w S A k css) (hk:cA S w w'):Rows w' S A k css:=fun hn=>by
 obtain⟨b,off,e,hs,hlt,hc⟩:=h hn;exact⟨b,off,e,hs,Nat.lt_of_lt_of_le hlt hk.1,fun j x hx i v hv=>(World.cell?_of_block (a:=bS b (off+j*k+i)) (hk.2 b hlt hs)).trans (hc j x hx i v hv)⟩
theorem Rows.mono (h:Rows w S A k css) (hs:∀ b,b<w.heap.size→S b→S' b):Rows w S' A k css:=fun hn=>by
 obtain⟨b,off,e,h1,hlt,hc⟩:=h hn;exact⟨b,off,e,hs b hlt h1,hlt,hc⟩
end
structure Rel (α:Type) where
 k:Nat
 is:World→(Nat→Prop)→List Value→α→Prop
 len:∀ {w S cs x},is w S cs x→cs.length=k
 one:∀ {w S cs x},is w S cs x→∀ v∈cs,v.oneCell'=true
 keep:∀ {w w':World} {S:Nat→Prop} {cs x},is w S cs x→cA S w w'→is w' S cs x
 mono:∀ {w:World} {S S':Nat→Prop} {cs x},is w S cs x→(∀ b,b<w.heap.size→S b→S' b)→is w S' cs x
def Sq {α:Type} (R:Rel α) (w:World) (S:Nat→Prop) (A:Option Addr) (xs:List α):Prop:=
 ∃ css:List (List Value),css.length=xs.length∧Rows w S A R.k css∧∀ (j:Nat) cs x,css[j]? =some cs→xs[j]? =some x→R.is w S cs x
section
variable {α:Type} {R:Rel α} {w w':World} {S S':Nat→Prop} {A:Option Addr} {xs:List α}
theorem Sq.nil:Sq R w S A []:=⟨[],rfl,fun h=>absurd rfl h,fun j cs x h=>by simp at h⟩
theorem Sq.keep (h:Sq R w S A xs) (hk:cA S w w'):Sq R w' S A xs:=by
 obtain⟨css,h1,h2,h3⟩:=h;exact⟨css,h1,h2.keep hk,fun j cs x hc hx=>R.keep (h3 j cs x hc hx) hk⟩
theorem Sq.bU (h:Sq R w S A xs) (hb:Below w w w'):Sq R w' S A xs:=h.keep (cA.cj hb)
theorem Sq.alloc (h:Sq R w S A xs) (o:Obj):Sq R (w.alloc o) S A xs:=h.bU (cJ _)
theorem Sq.drew (h:Sq R w S A xs):Sq R w.drew S A xs:=h.keep ⟨Nat.le_refl _,fun _ _ _=>rfl⟩
theorem Sq.mono (h:Sq R w S A xs) (hs:∀ b,b<w.heap.size→S b→S' b):Sq R w S' A xs:=by
 obtain⟨css,h1,h2,h3⟩:=h;exact⟨css,h1,h2.mono hs,fun j cs x hc hx=>R.mono (h3 j cs x hc hx) hs⟩
theorem Sq.all (h:Sq R w S A xs):Sq R w Any A xs:=h.mono fun _ _ _=>trivial
theorem Sq.get (h:Sq R w S A xs) {j:Nat} (hj:j<xs.length):∃ b off cs,A=bS b off∧S b∧b<w.heap.size∧R.is w S cs xs[j]∧∀ i v,cs[i]? =some v→bW w b (off+j*R.k+i) v:=by
 obtain⟨css,h1,h2,h3⟩:=h;have hj':j<css.length:=af;obtain⟨b,off,e,hs,hlt,hc⟩:=h2 (fun e=>by rw[e]at hj';simp at hj');exact⟨b,off,css[j],e,hs,hlt,h3 j _ _ (List.getElem?_eq_getElem hj') (List.getElem?_eq_getElem hj),fun i v hv=>hc j _ (List.getElem?_eq_getElem hj') i v hv⟩
theorem Sq.addr (h:Sq R w S A xs) (hn:xs≠[]):∃ b off,A=bS b off∧S b∧b<w.heap.size:=by
 obtain⟨css,h1,h2,h3⟩:=h;obtain⟨b,off,e,hs,hlt,_⟩:=h2 (fun e=>hn (List.eq_nil_of_length_eq_zero (by rw[← h1,e];rfl)));exact⟨b,off,e,hs,hlt⟩
theorem Sq.lst (h:Sq R w S A xs):∃ f:Nat→List Value,(∀ i,(f i).length=R.k)∧II f R.k w A (List.range xs.length)∧(∀ i v,v∈f i→v.oneCell'=true)∧∀ i (hi:i<xs.length),R.is w S (f i) xs[i]:=by
 obtain⟨css,h1,h2,h3⟩:=h;refine⟨fun i=>(css[i]?).getD (List.replicate R.k (bR 0)),fun i=>?_,fun hn=>?_,fun i v hv=>?_,fun i hi=>?_⟩
 ·dsimp only;by_cases hi:i<css.length
  (·rw[List.getElem?_eq_getElem hi];exact R.len (h3 i _ xs[i] (List.getElem?_eq_getElem hi) (List.getElem?_eq_getElem af)));rw[List.getElem?_eq_none af];simp
 ·have hn':css≠[]:=fun e=>by
   apply hn;rw[← h1,e];rfl
  obtain⟨b,off,e,hs,hlt,hc⟩:=h2 hn';refine⟨b,off,e,hlt,fun j x hx i v hv=>?_⟩;obtain⟨hj,Zq⟩:=List.getElem?_eq_some_iff.1 hx;rw[List.length_range]at hj;rw[List.getElem_range]at Zq;subst Zq;have hj':j<css.length:=af;dsimp only at hv;rw[List.getElem?_eq_getElem hj']at hv;exact hc j _ (List.getElem?_eq_getElem hj') i v hv
 ·dsimp only at hv;by_cases hi:i<css.length
  (·rw[List.getElem?_eq_getElem hi]at hv;exact R.one (h3 i _ xs[i] (List.getElem?_eq_getElem hi) (List.getElem?_eq_getElem af)) v hv);rw[List.getElem?_eq_none af]at hv;have:=List.eq_of_mem_replicate hv;rw[this];rfl
 dsimp only;have hi':i<css.length:=af;rw[List.getElem?_eq_getElem hi'];exact h3 i _ _ (List.getElem?_eq_getElem hi') (List.getElem?_eq_getElem hi)
end
def cV {α:Type} (R:Rel α) (T B:Nat) (w:World) (S:Nat→Prop) (v:Value) (xs:List α):Prop:=
 ∃ css:List (List Value),css.length=xs.length∧w.ownsRow B T R.k v xs.length css.flatten∧(∀ cs∈css,cs.length=R.k)∧∀ (j:Nat) cs x,css[j]? =some cs→xs[j]? =some x→R.is w (fun b=>S b∧some b≠v.ownBlock) cs x
end
end Go.Proofs.YtkfofnjfihfgkaaGreatDoor
namespace Go.Proofs.YtkfofnjfihfgkaaGreatDoor
open Go Go.RowKit Go.Proofs Sh
section
def jX {α:Type} (k:Nat) (f:α→List Value) (hk:∀ x,(f x).length=k) (h1:∀ x,∀ v∈f x,v.oneCell'=true):Rel α where
 k:=k
 is:=fun _ _ cs x=>cs=f x
 len:=fun h=>by rw[h];exact hk _
 one:=fun h=>by rw[h];exact h1 _
 keep:=fun h _=>h
 mono:=fun h _=>h
def dw:Rel ByteArray:=jX 1 (fun s=>[bV s]) (fun _=>rfl) (fun x v hv=>by simp at hv;subst hv;rfl)
def gN:Rel eL:=jX 6 (fun x=>[bV x.name,bV x.unit,bR x.amount,bR x.house,bV x.port,bR x.version]) (fun _=>rfl) (fun x v hv=>by simp at hv;rcases hv with rfl|rfl|rfl|rfl|rfl|rfl<;>rfl)
def jg:Rel gR:=jX 3 (fun x=>[bV x.name,bV x.unit,bV x.kind]) (fun _=>rfl) (fun x v hv=>by simp at hv;rcases hv with rfl|rfl|rfl<;>rfl)
def yw:Rel ym:=jX 2 (fun x=>[bR x.key,bR x.value]) (fun _=>rfl) (fun x v hv=>by simp at hv;rcases hv with rfl|rfl<;>rfl)
def jM:Rel mX:=jX 2 (fun x=>[bV x.name,bV x.unit]) (fun _=>rfl) (fun x v hv=>by simp at hv;rcases hv with rfl|rfl<;>rfl)
def lH:Rel kO:=jX 3 (fun x=>[bV x.name,bV x.unit,bR x.amount]) (fun _=>rfl) (fun x v hv=>by simp at hv;rcases hv with rfl|rfl|rfl<;>rfl)
def jh:Rel jz:=jX 3 (fun x=>[bV x.name,bV x.unit,bR x.rule]) (fun _=>rfl) (fun x v hv=>by simp at hv;rcases hv with rfl|rfl|rfl<;>rfl)
inductive cR (w:World) (S:Nat→Prop):List Value→cD→Prop
 |mk (op n:Int) (unit name:ByteArray) (A:Option Addr) (c:Nat) (css:List (List Value)) (args:List cD):
  css.length=args.length→Rows w S A 5 css→(∀ (j:Nat) cs x,css[j]? =some cs→args[j]? =some x→cR w S cs x)→
  cR w S [bR op,bR n,bV unit,bV name,bQ A args c] (.mk op n unit name args)
theorem cR.keep {w w':World} {S:Nat→Prop} {cs:List Value} {x:cD} (h:cR w S cs x) (hk:cA S w w'):cR w' S cs x:=by
 induction h with
 |mk op n unit name A c css args h1 h2 h3 ih=>exact .mk op n unit name A c css args h1 (h2.keep hk) ih
theorem cR.mono {w:World} {S S':Nat→Prop} {cs:List Value} {x:cD} (h:cR w S cs x) (hs:∀ b,b<w.heap.size→S b→S' b):cR w S' cs x:=by
 induction h with
 |mk op n unit name A c css args h1 h2 h3 ih=>exact .mk op n unit name A c css args h1 (h2.mono hs) ih
def ja:Rel cD where
 k:=5
 is:=cR
 len:=fun h=>by cases h;rfl
 one:=fun h v hv=>by
  cases h;simp at hv;rcases hv with rfl|rfl|rfl|rfl|rfl<;>rfl
 keep:=cR.keep
 mono:=cR.mono
theorem cR.parts {w:World} {S:Nat→Prop} {cs:List Value} {x:cD} (h:cR w S cs x):∃ op n unit name A c args,x= .mk op n unit name args∧cs=[bR op,bR n,bV unit,bV name,bQ A args c]∧Sq ja w S A args:=by
 cases h with
 |mk op n unit name A c css args h1 h2 h3=>exact⟨op,n,unit,name,A,c,args,rfl,rfl,css,h1,h2,h3⟩
theorem cR.of {w:World} {S:Nat→Prop} {op n:Int} {unit name:ByteArray} {A:Option Addr} {c:Nat} {args:List cD} (h:Sq ja w S A args):cR w S [bR op,bR n,bV unit,bV name,bQ A args c] (.mk op n unit name args):=by
 obtain⟨css,h1,h2,h3⟩:=h;exact .mk op n unit name A c css args h1 h2 h3
def fO:Rel eB where
 k:=3
 is:=fun w S cs x=>∃ A c,cs=[bV x.name,bV x.unit,bQ A x.rows c]∧Sq yw w S A x.rows
 len:=fun⟨A,c,h,_⟩=>by rw[h];rfl
 one:=fun⟨A,c,h,_⟩ v hv=>by
  rw[h]at hv;simp at hv;rcases hv with rfl|rfl|rfl<;>rfl
 keep:=fun⟨A,c,h,k⟩ hk=>⟨A,c,h,k.keep hk⟩
 mono:=fun⟨A,c,h,k⟩ hs=>⟨A,c,h,k.mono hs⟩
def jb:Rel eU where
 k:=7
 is:=fun w S cs x=>∃ A c es,cs=[bV x.name,bQ A x.params c]++es∧Sq jM w S A x.params∧cR w S es x.body
 len:=fun⟨A,c,es,h,_,k⟩=>by rw[h,List.length_append,ja.len k];rfl
 one:=fun⟨A,c,es,h,_,k⟩ v hv=>by
  rw[h,List.mem_append]at hv;rcases hv with hv|hv
  (·simp at hv;rcases hv with rfl|rfl<;>rfl);exact ja.one k v hv
 keep:=fun⟨A,c,es,h,k1,k2⟩ hk=>⟨A,c,es,h,k1.keep hk,k2.keep hk⟩
 mono:=fun⟨A,c,es,h,k1,k2⟩ hs=>⟨A,c,es,h,k1.mono hs,k2.mono hs⟩
def dS:Rel cL where
 k:=7
 is:=fun w S cs x=>∃ es,cs=[bV x.name,bV x.unit]++es∧cR w S es x.iY
 len:=fun⟨es,h,k⟩=>by rw[h,List.length_append,ja.len k];rfl
 one:=fun⟨es,h,k⟩ v hv=>by
  rw[h,List.mem_append]at hv;rcases hv with hv|hv
  (·simp at hv;rcases hv with rfl|rfl<;>rfl);exact ja.one k v hv
 keep:=fun⟨es,h,k2⟩ hk=>⟨es,h,k2.keep hk⟩
 mono:=fun⟨es,h,k2⟩ hs=>⟨es,h,k2.mono hs⟩
def gT:Rel dV where
 k:=6
 is:=fun w S cs x=>∃ A1 c1 A2 c2 A3 c3,cs=[bR x.kind,bQ A1 x.inp c1,bQ A2 x.o c2,bV x.name,bQ A3 x.cells c3,bR x.amount]∧Sq dw w S A1 x.inp∧Sq dw w S A2 x.o∧Sq dw w S A3 x.cells
 len:=fun⟨A1,c1,A2,c2,A3,c3,h,_⟩=>by rw[h];rfl
 one:=fun⟨A1,c1,A2,c2,A3,c3,h,_⟩ v hv=>by
  rw[h]at hv;simp at hv;rcases hv with rfl|rfl|rfl|rfl|rfl|rfl<;>rfl
 keep:=fun⟨A1,c1,A2,c2,A3,c3,h,k1,k2,k3⟩ hk=>⟨A1,c1,A2,c2,A3,c3,h,k1.keep hk,k2.keep hk,k3.keep hk⟩
 mono:=fun⟨A1,c1,A2,c2,A3,c3,h,k1,k2,k3⟩ hs=>⟨A1,c1,A2,c2,A3,c3,h,k1.mono hs,k2.mono hs,k3.mono hs⟩
def dL:Rel cw where
 k:=2
 is:=fun w S cs x=>∃ A c,cs=[bV x.kind,bQ A x.steps c]∧Sq gT w S A x.steps
 len:=fun⟨A,c,h,_⟩=>by rw[h];rfl
 one:=fun⟨A,c,h,_⟩ v hv=>by
  rw[h]at hv;simp at hv;rcases hv with rfl|rfl<;>rfl
 keep:=fun⟨A,c,h,k⟩ hk=>⟨A,c,h,k.keep hk⟩
 mono:=fun⟨A,c,h,k⟩ hs=>⟨A,c,h,k.mono hs⟩
structure dU where
 A1:Option Addr
 c1:Nat
 A2:Option Addr
 c2:Nat
 A3:Option Addr
 c3:Nat
 A4:Option Addr
 c4:Nat
 A5:Option Addr
 c5:Nat
 A6:Option Addr
 c6:Nat
 A7:Option Addr
 c7:Nat
 A8:Option Addr
 c8:Nat
def cn (a:dU) (s:bY):List Value:=
 (cz s a.A1 a.A2 a.A3 a.A4 a.A5 a.A6 a.A7 a.A8 a.c1 a.c2 a.c3 a.c4 a.c5 a.c6 a.c7 a.c8)
structure cB (w:World) (S:Nat→Prop) (a:dU) (s:bY):Prop where
 imports:Sq gN w S a.A1 s.imports
 inputs:Sq jg w S a.A2 s.inputs
 tables:Sq fO w S a.A3 s.tables
 funcs:Sq jb w S a.A4 s.funcs
 cells:Sq dS w S a.A5 s.cells
 b9:Sq lH w S a.A6 s.b9
 stores:Sq jh w S a.A7 s.stores
 bX:Sq dL w S a.A8 s.bX
section
variable {w w':World} {S S':Nat→Prop} {a:dU} {s:bY}
theorem cB.keep (h:cB w S a s) (hk:cA S w w'):cB w' S a s:=⟨h.imports.keep hk,h.inputs.keep hk,h.tables.keep hk,h.funcs.keep hk,h.cells.keep hk,h.b9.keep hk,h.stores.keep hk,h.bX.keep hk⟩
theorem cB.mono (h:cB w S a s) (hs:∀ b,b<w.heap.size→S b→S' b):cB w S' a s:=⟨h.imports.mono hs,h.inputs.mono hs,h.tables.mono hs,h.funcs.mono hs,h.cells.mono hs,h.b9.mono hs,h.stores.mono hs,h.bX.mono hs⟩
theorem cB.bU (h:cB w S a s) (hb:Below w w w'):cB w' S a s:=h.keep (cA.cj hb)
theorem cB.alloc (h:cB w S a s) (o:Obj):cB (w.alloc o) S a s:=h.bU (cJ _)
theorem cB.all (h:cB w S a s):cB w Any a s:=h.mono fun _ _ _=>trivial
end
end
end Go.Proofs.YtkfofnjfihfgkaaGreatDoor
namespace Go.Proofs.YtkfofnjfihfgkaaGreatDoor
open Go Go.RowKit
section
section
variable {P:Program} {ops:Array Oper} {md:Region.Mode} {C:World→Prop}
def Jq (P:Program) (md:Region.Mode) (ops:Array Oper) (C:World→Prop) (n:Nat) (L:Array Bool→Act→Prop):Nat→Array Bool→Act→Prop
 |0,listed,a=>L listed a
 |f+1,listed,a=>Region.ready md ops listed≠[]∧∀ i∈Region.ready md ops listed,i<n∧qOp P ops C i (Jq P md ops C n L f (listed.setIfInBounds i true)) a
theorem wJ {n g:Nat} {L:Array Bool→Act→Prop} {Q:Exit→Act→World→Prop} (hL:∀ listed a w,C w→L listed a→wpAny P md ops Q g listed a w):
 ∀ (f:Nat) (listed:Array Bool) (a:Act) (w:World),C w→Jq P md ops C n L f listed a→wpAny P md ops Q (f+g) listed a w
 |0,listed,a,w,hw,h=>by rw[Nat.zero_add];exact hL _ _ _ hw h
 |f+1,listed,a,w,hw,h=>by
  have e:f+1+g=(f+g)+1:=af;rw[e];exact⟨fun h0=>absurd h0 h.1,fun i hi=>wpOp_of_qOp hw (fun a' w' hw' h'=>wJ hL f _ a' w' hw' h') (h.2 i hi).2⟩
theorem Jr {n i:Nat} {oi:Oper} {v:Value} {L:Array Bool→Act→Prop} (hi:ops[i]? =some oi) (hsel:∀ (j:Nat) (o:Oper) cs b,ops[j]? =some o→o.op≠ .select cs b) (hs:Region.sinkB md ops n=true) (hc:Region.chainB md ops n=true) (hn:n<ops.size) (hin:i<n) (hdone:∀ listed a,L listed a→∀ j∈Region.ready md ops listed,n≤j) (f:Nat):∀ (listed:Array Bool) (a:Act),HeadInv md ops n listed→(∀ j oj,ops[j]? =some oj→j≠i→listed.getD j true=false→(∀ e∈oj.after,Region.binds md e=true→e.on≠i)→oi.apart ops oj=true)→i∈Region.ready md ops listed→YieldsIn P ops C oi v a→Jq P md ops C n L f (listed.setIfInBounds i true) (a.put oi.dst v)→Jq P md ops C n L (f+1) listed a:=by
 have early:∀ {listed:Array Bool},HeadInv md ops n listed→i∈Region.ready md ops listed→∀ j∈Region.ready md ops listed,j<n:=fun inv hr j hj=>by
  rcases Nat.lt_or_ge j n with h|h
  (·exact h);exact absurd hj (tail_waits hs hc hn inv _ i rfl hin (mem_ready.1 hr).1 j h)
 induction f with
 |zero=>
  intro listed a inv _ hr hy H;refine⟨fun h=>aaj,fun j hj=>⟨early inv hr j hj,?_⟩⟩;by_cases e:j=i
  (·subst e;exact hy.qOp hi H);have h1:=hdone _ _ H j (ready_mono hj e);have h2:=early inv hr j hj;omega
 |succ f ih=>
  intro listed a inv hfree hr hy H;refine⟨fun h=>aaj,fun j hj=>⟨early inv hr j hj,?_⟩⟩;by_cases e:j=i
  (·subst e;exact hy.qOp hi H);obtain⟨YB,oj,Js,hall⟩:=mem_ready.1 hj;have hnot:∀ e∈oj.after,Region.binds md e=true→e.on≠i:=fun e he hb q=>by
   have h1:=hall e he hb;rw[q,getD_both (mem_ready.1 hr).1]at h1;cases h1
  have h2:=qOp_put Js (hfree j oj Js e YB hnot) (fun cs b=>hsel i oi cs b hi) (fun cs b=>hsel j oj cs b Js) hy (H.2 j (ready_mono hj e)).2;refine qOp_mono (fun a' h3=>ih (listed.setIfInBounds j true) a' (inv.set hj (early inv hr j hj)) (fun k ok hk hki hun hno=>?_) (ready_mono hr (Ne.symm e)) h3.1 (by rw[Array.setIfInBounds_comm _ _ e];exact h3.2)) h2;refine hfree k ok hk hki ?_ hno;by_cases q:j=k
  (·subst q;exact YB);rw[getD_set_ne true q]at hun;exact hun
theorem Fj {n g:Nat} {Lq:Act→Prop} (hsel:Region.noSelect ops=true) (hs:Region.sinkB md ops n=true) (hc:Region.chainB md ops n=true) (hn:n<ops.size):
 ∀ (l:List Oper) (k:Nat) (listed:Array Bool) (a:Act),(∀ j,j<l.length→l[j]? =ops[k+j]?)→k+l.length=n→HeadInv md ops n listed→
 Region.lexHead md ops g l.length k listed=true→wpQuiet P ops C Lq l a→Jq P md ops C n (fun listed' a'=>Region.seqB md ops g n listed'=true∧Lq a') l.length listed a
 |[],k,listed,a,_,hk,_,hB,h=>by
  (obtain rfl:k=n:=by simpa using hk);exact⟨by simpa [Region.lexHead]using hB,h⟩
 |o :: l,k,listed,a,hl,hk,inv,hB,h=>by
  have h0:ops[k]? =some o:=(by simpa using (hl 0 aj).symm);simp only[List.length_cons,Region.lexHead,Bool.and_eq_true]at hB hk;obtain⟨⟨hr,hf⟩,hB'⟩:=hB;have hkn:k<n:=af;have hr':k∈Region.ready md ops listed:=(by simpa using hr);obtain⟨v,hy,hK⟩:=yieldsIn_of_qOp h0 (show qOp P ops C k (wpQuiet P ops C Lq l) a by unfold qOp;simp only[h0];exact h);refine Jr h0 (Region.noSelect_spec hsel) hs hc hn hkn (fun listed' a' hL=>seqB_ready hL.1) l.length listed a inv (Region.free_spec h0 hf) hr' hy ?_;refine Fj hsel hs hc hn l (k+1) _ _ (fun j hj=>?_) af (inv.set hr' hkn) hB' hK;have:=hl (j+1) aq;simpa [Nat.add_assoc,Nat.add_comm 1 j]using this
theorem dc {id:Nat} {Q:Exit→Act→World→Prop} {a:Act} {w:World} {l:List Oper} (n:Nat) (hm:P.follows .mixedOrders=true) (hB:Region.lexTailB .any l.toArray n=true) (hC:C w.drew) (h:wpQuiet P l.toArray C (fun a'=>∀ w',C w'→wpList P l.toArray Q (l.drop n) a' w') (l.take n) a):(Code.region id l.toArray true).wp P Q a w:=by
 simp only[Region.lexTailB,Bool.and_eq_true,decide_eq_true_eq]at hB;obtain⟨⟨⟨⟨hsel,hn⟩,hs⟩,hc⟩,hlex⟩:=hB;have LX:n<l.length:=aap;have ht:(l.take n).length=n:=aq;have hd:(l.drop n).length=l.toArray.size - n:=aj;have inv0:HeadInv .any l.toArray n (Array.replicate l.toArray.size false):=
  ⟨by simp,fun j oj _ hl=>(by rw[getD_replicate_false]at hl;cases hl),fun t _ ht=>getD_in (by simpa using ht) (getD_replicate_false _ _)⟩
 have H:=Fj (md:= .any) (g:=l.toArray.size - n) hsel hs hc hn (l.take n) 0 _ a (fun j hj=>by
  have hj':j<n:=(by rw[ht]at hj;exact hj);simp[hj']) (by simpa using ht) inv0 (by rw[ht];exact hlex) h
 refine wp_region_any hm ?_;have key:=wJ (Q:=Q) (g:=l.toArray.size - n) (fun listed a' w' hw' hL=>by
  have:=wpAny_of_seq (md:= .any) (Q':=Q) (l.drop n) n listed a' w' (fun j=>by simp[List.getElem?_drop]) (by rw[hd];exact hL.1) (hL.2 w' hw')
  rwa [hd]at this) _ _ _ _ hC H
 rw[ht]at key;have e:n+(l.toArray.size - n)=l.toArray.size:=af;rw[e]at key;exact key
end
def eW (w:World):Type:={w':World // Below w w w'}
instance grew_some {w:World}:Nonempty (eW w):=⟨⟨w,Below.refl _ _⟩⟩
def eW.at {w:World} (u:eW w):World:=u.1
def fT (w:World):World→Prop:=fun w'=>∃ u:eW w,w'=u.at
section
variable {w:World}
theorem eW.bU (u:eW w):Below w w u.at:=u.2
theorem eW.cell (u:eW w) {p:Addr} {v:Value} (h:w.cell? p=some v):u.at.cell? p=some v:=(u.bU.cell (World.block_lt_of_cell? w p h)).trans h
theorem fT.UD:Below w w w.drew:=⟨rfl,rfl,rfl,Nat.le_refl _,fun _ _=>rfl⟩
theorem fT.drew:fT w w.drew:=⟨⟨w.drew,⟨rfl,rfl,rfl,Nat.le_refl _,fun _ _=>rfl⟩⟩,rfl⟩
theorem fT.of {w':World} (h:Below w w w'):fT w w':=⟨⟨w',h⟩,rfl⟩
theorem eW.after (u:eW w) {w':World} (h:Below u.at.heap.size u.at w'):fT w w':= .of (u.bU.trans (h.mono u.bU.size))
end
variable {P:Program} {w:World}
theorem eI {f:FuncId} {args:Array Value} {u:eW w} {v:Value} (h:Calls P f args u.at fun e w'=>e= .returned v∧Below u.at.heap.size u.at w'):
 Calls P f args u.at fun e w'=>e= .returned v∧fT w w':=h.mono fun _ _ ⟨he,hb⟩=>⟨he,u.after hb⟩
theorem dK {f:FuncId} {args:Array Value} {u:eW w} {v:Value} (h:Calls P f args u.at fun e w'=>e= .returned v∧w'=u.at):
 Calls P f args u.at fun e w'=>e= .returned v∧fT w w':=h.mono fun _ _ ⟨he,hb⟩=>⟨he,hb▸⟨u,rfl⟩⟩
end
end Go.Proofs.YtkfofnjfihfgkaaGreatDoor
