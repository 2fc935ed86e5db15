/- Parts of the proof, packed (IterC to FwU); each theorem bears its own conditions. -/
import Derived.Shelf.SlIter.Collect
import Derived.Sort.Grow
import Derived.Sort.Walk0
import Derived.Laws.Cover1
import Derived.Lib.OwnBridge
import Derived.Shelf.SlSortCmp.NoneTotal
import Derived.Test.YtfppbjfnllhgcaaGreatPp12
set_option linter.unusedVariables false
set_option linter.unusedSimpArgs false
set_option maxRecDepth 100000
set_option maxHeartbeats 8000000
open Go.Proofs.Tryz
open Go.Lib renaming hid → aa
open Nat renaming le_refl→aaB,lt_of_lt_of_le→aaD,le_trans→aaC,zero_le→aaG,mul_le_mul_right→aaF
open Go.World renaming size_alloc→aaI
open List renaming getElem_mem→aan,length_append→aao,length_map→aap,mem_append→aar,take_succ_eq_append_getElem→aaz,range→aav
open Go.RowKit.Below renaming refl→aaf
theorem aL {p:Prop} (h:p:=by have:=fh.o;have:=HB.o.size;rw[World.size_alloc];omega):p:=h
namespace Go.Proofs.YtfppbjfnllhgcaaGreat
section
open Go Go.RowKit Go.Maps Go.Sort Go.Shelf Go.Proofs
abbrev Hx (z:gZ):Value:= .agg #[bU z.1,bV z.2]
theorem Ve {x y:gZ} (h:Hx x=Hx y):x=y:=by
 obtain⟨a,b⟩:=x;obtain⟨c,d⟩:=y;simpa [Hx]using h
theorem two_of {α:Type}:∀ {l:List α},l.length=2→∃ x y,l=[x,y]
 |[x,y],_=>⟨x,y,rfl⟩
theorem FN {v:Value} {kl:Go.Lit} (h:keyOf prog 51 v=some kl):∃ z:gZ,v=Hx z∧kl=mN z∧gX z:=by
 obtain⟨n,hn⟩:∃ n,Tryz.prog.types.size=n+1:=Nat.exists_eq_succ_of_ne_zero (of_decide_eq_true ah);have e0:keyOf prog 51 v=if Tryz.prog.keyType 51&&v.formed prog 51 then(Tryz.prog.keyLits (Tryz.prog.types.size+1) 51 v.cells.toList).map fun ls=> .string (keyBytes ls)else none:=by
  unfold keyOf;rw[underlying51]
 rw[e0]at h;clear e0;have hkt:Tryz.prog.keyType 51=true:=YN;simp only[hkt,Bool.true_and]at h;split at h
 ·next hf=>
  rw[hn]at h
  cases v<;>simp[Value.formed,underlying51,h_]at hf
  rename_i cs
  obtain⟨l⟩:=cs
  obtain⟨x,y,rfl⟩:=two_of (show l.length=2 by simpa using hf)
  simp[Program.keyLits,underlying51,underlying3,underlying9,h_,Uv,Uw,Value.cells]at h
  cases x<;>simp at h
  rename_i q a
  by_cases hq:q= .i64∧(Lit.int .i64 a).wf=true
  ·
   rw[if_pos hq]at h
   cases y<;>simp at h
   rename_i b
   by_cases hb:b.size≤maxLen
   ·
    rw[if_pos hb]at h;simp at h;obtain⟨rfl,hw⟩:=hq;exact⟨(a,b),rfl,h.symm,⟨hw,hb⟩⟩
   ·
    rw[if_neg hb]at h;simp at h
  ·
   rw[if_neg hq]at h;simp at h
 exact(Option.some_ne_none _ h.symm).elim
def uK {H:Type} (D0:DataW H) (left:Go.Lit→Bool) (ss:List gZ):Prop:=ss.Nodup∧(∀ x∈ss,gX x)∧∀ x,gX x→(x∈ss↔(has D0 (mN x)=true∧left (mN x)=false))
theorem uK.start {H:Type} (D0:DataW H):uK D0 (has D0) []:=⟨List.nodup_nil,by simp,fun x _=>by cases has D0 (mN x)<;>simp⟩
theorem KA {x y:gZ} (hx:gX x) (hy:gX y):(mN y).sameKey (mN x)=decide (y=x):=by
 by_cases e:y=x
 (·subst e;simp[mN,Lit.sameKey]);have:mN y≠mN x:=fun h=>e (Dt hy hx h);rw[decide_eq_false e];unfold mN at this ⊢;simp[Lit.sameKey]at this ⊢;exact this
theorem uK.step {H:Type} {D0:DataW H} {left:Go.Lit→Bool} {ss:List gZ} (h:uK D0 left ss) {x:gZ} (hx:gX x) {y:DataW H} (hlk:left (mN x)=true) (hat:∀ zd,D0.atKey (mN x) zd=y):uK D0 (fun z=>left z&& !z.sameKey (mN x)) (ss++[x]):=by
 have hhas:has D0 (mN x)=true:=has_true_of_atKey hat;(have hnew:x∉ss:=fun hm=>by have:=((h.2.2 x hx).1 hm).2;rw[hlk]at this;cases this);refine⟨List.nodup_append.2 ⟨h.1,by simp,fun a ha b hb=>by simp at hb;subst hb;exact fun e=>hnew (e▸ha)⟩,fun a ha=>?_,fun y hy=>?_⟩
 ·rcases aar.1 ha with h1|h1
  (·exact h.2.1 a h1);simp at h1;subst h1;exact hx
 by_cases e:y=x
 (·subst e;simp[hhas,KA hx hx]);simp[h.2.2 y hy,e,KA hx hy]
theorem Ny {H:Type} (n l Bm b nn:Nat) (D0:DataW H) {R:Value→Option (DataW H×List MemPlace)} (J:List gZ→World→Prop) (hY:∀ pre x W,J pre W→gX x→pre.length<Maps.size D0→YieldAt Fence.wide (n - 1) prog l #[Hx x] W fun e W'=>e= .returned (.bool true)∧J (pre++[x]) W'∧KeepsWalks W W') (W:World) (hJ:AbidesFrom W J) (hJa:∀ ss w o,J ss w→J ss (w.alloc o)) (hm:b_ W Bm 0 (.map (some b))) (hown:W.ownsMap prog 51 R b nn D0) (h0:J [] W):CallsIn Fence.wide n prog 60 #[.func (.yield l) #[] #[],.pointer (bY Bm 0)] W fun e W'=>(∃ v,e= .returned v)∧∃ (left:Go.Lit→Bool) (ss:List gZ),(∀ kl,left kl=false)∧uK D0 left ss∧ss.length≤Maps.size D0∧J ss W':=by
 refine callsIn_of_wp func60 rfl trivial ?_ rfl
 simp only[ntmps60,List.size_toArray,List.length_cons,List.length_nil,Nat.reduceAdd,Nat.reduceSub,Array.replicate_succ,Array.replicate_zero,List.push_toArray,List.append_toArray,List.nil_append,List.cons_append]
 gi_wp2_with (first
  |(gi_at_range;refine wpListIn_range_own _ rfl _ 78 rfl 51 4 ou underlying78 _ b nn _ rfl hown ?_;intro w0 hrg0 hg0 hs0)
  |gi_in)
 go_frame
 gi_loopw [3] (fun _ wr=>∃ (left:Go.Lit→Bool) (cnt:Nat) (ss:List gZ),wr.ranges prog 51 R b W nn D0 left cnt∧ss.length+cnt≤Maps.size D0∧uK D0 left ss∧J ss wr)
  (fun _ wr=>wr.rangeLeft b W)
 case atStart=>
  exact⟨_,_,[],hrg0,by simp,uK.start D0,hJ [] W w0 none h0 hg0 (fun r e=>by cases e)⟩
 case round=>
  obtain⟨left,cnt,ss,hrg,hcs,hC,hJs⟩:=hrel
  gi_wp2_with (first
   |(gi_at_next;refine wpListIn_next_ranges _ rfl _ rfl 51 ou R Hx id (fun key kl hk=>by obtain⟨x,hx,_⟩:=FN hk;exact⟨x,hx⟩) (fun v _ _=>⟨v,rfl⟩) b W nn _ _ _ rfl hrg ?_ ?_)
   |gi_in)
  ·
   intro hc0 hl0
   gi_wp2
   go_end0
   exact⟨⟨_,rfl⟩,left,ss,hl0,hC,by omega,hJs⟩
  ·
   intro x1 x2 c kl yd yp w2 cnt2 hkey hlk hv hat hrg2 hlt hg2 hs2 hen
   obtain⟨x,ex,rfl,hok⟩:=FN hkey
   obtain rfl:(x1,x2)=x:=Ve ex
   have hJ2:J ss w2:=hJ ss wr w2 (some W.heap.size) hJs hg2 (fun r e=>by cases e;exact⟨aaB _,hrg.iter_walk⟩)
   have hJ3:J ss (w2.alloc (.cells #[bU x1,bV x2] 51)):=hJa _ _ _ hJ2
   obtain⟨fn,tmps,assign,body,hy,hR⟩:=hY ss (x1,x2) _ hJ3 hok af
   clear hs2
   gi_wp2
   refine⟨fun h=>by simp[Fence.wide]at h,hR.mono ?_⟩
   rintro e W3 ⟨rfl,hJ3,hk3⟩
   gi_wp2
   have hrg3:=(hrg2.alloc _).of_walks hk3
   go_roundw
   case rel=>exact⟨_,cnt2,ss++[(x1,x2)],hrg3,by simp;omega,hC.step hok hlk hat,hJ3⟩
   case measure=>rw[hrg3.left_eq,hrg.left_eq];exact hlt
def apAssign:Code:=(Code.region 2 #[{dst:=some 5,op:=Op.alloc 51,type:=0,pos:= "iter.go:51",after:=#[],guard:=none},{dst:=none,op:=Op.store 51 (Operand.tmp 5) (Operand.tmp 7),type:=0,pos:= "iter.go:51",after:=#[{on:=0,ground:=Ground.data},{on:=0,ground:=Ground.phase}],guard:=none}] false)
def apBody:Code:=(Code.block 1 (Code.region 3 #[{dst:=some 8,op:=Op.load 35 (Operand.tmp 2),type:=35,pos:= "iter.go:52",after:=#[],guard:=none},{dst:=some 9,op:=Op.load 51 (Operand.tmp 5),type:=51,pos:= "iter.go:52",after:=#[],guard:=none},{dst:=some 10,op:=Op.buildSlice 35 1 #[(0,Operand.tmp 9)],type:=35,pos:= "iter.go:52",after:=#[{on:=1,ground:=Ground.data}],guard:=none},{dst:=some 11,op:=Op.call {callee:=Callee.builtin Builtin.append,args:=#[Operand.tmp 8,Operand.tmp 10],argTypes:=#[35,35]},type:=35,pos:= "iter.go:52",after:=#[{on:=0,ground:=Ground.data},{on:=2,ground:=Ground.data}],guard:=none},{dst:=none,op:=Op.store 35 (Operand.tmp 2) (Operand.tmp 11),type:=0,pos:= "iter.go:52",after:=#[{on:=3,ground:=Ground.data},{on:=3,ground:=Ground.chain},{on:=0,ground:=Ground.phase},{on:=1,ground:=Ground.phase},{on:=2,ground:=Ground.phase},{on:=3,ground:=Ground.phase}],guard:=none}] false))
def apRec (fn:FuncId) (sv:Value) (Bs D:Nat) (st:LoopState) (pend:Option Code):Loop:=
 {state:=st,pending:=pend,fn,tmps:=#[cD,sv,.pointer (bY Bs 0),undef,cD,undef,sv,undef,undef,undef,undef,undef,undef],params:=#[7],assign:=apAssign,body:=apBody,defers:=D}
structure ApAt (w0:World) (fn:FuncId) (sv:Value) (Bs l D:Nat) (ss:List gZ) (W:World):Prop where
 box:∃ v,W.heap[Bs]? =some (.cells #[v] 35 (0,0))∧W.ownsRow w0 51 2 v ss.length (ss.flatMap ki)∧(v=bW none 0 0↔ss=[])
 L:W.heap[l]? =some (.loop (apRec fn sv Bs D .ready none))
 K:W.heap[D]? =some (.deferred (some []))
 bZ:Below w0 w0 W
theorem ap_abides (w0:World) (fn:FuncId) (sv:Value) (Bs l D B:Nat) (hB:w0.heap.size≤B):AbidesFrom B (ApAt w0 fn sv Bs l D):=fun s W W' row h hg hrow=>by
 have hrow':∀ r,row=some r→∃ o:Obj,W.heap[r]? =some o∧o.isWalk=true:=fun r e=>(hrow r e).2;obtain⟨v,hv,hr,hn⟩:=h.box;exact⟨⟨v,(grownBy_keeps hg hrow' hv rfl).trans hv,ownsRow_abides_a hr hg hrow',hn⟩,(grownBy_keeps hg hrow' h.L rfl).trans h.L,(grownBy_keeps hg hrow' h.K rfl).trans h.K,
  h.bZ.grown hg h.bZ.size (fun k e=>aaC hB (hrow k e).1)⟩
theorem KC (w0:World) (fn:FuncId) (sv:Value) (Bs l D:Nat) (ss:List gZ) (W:World) (o:Obj) (h:ApAt w0 fn sv Bs l D ss W):ApAt w0 fn sv Bs l D ss (W.alloc o):=by
 obtain⟨v,hv,hr,hn⟩:=h.box;exact⟨⟨v,(Below.heap_alloc _ _ Bs (Array.getElem?_eq_some_iff.1 hv).1).trans hv,hr.alloc _,hn⟩,(Below.heap_alloc _ _ l (Array.getElem?_eq_some_iff.1 h.L).1).trans h.L,(Below.heap_alloc _ _ D (Array.getElem?_eq_some_iff.1 h.K).1).trans h.K,h.bZ.alloc h.bZ.size _⟩
theorem cell_two_new (w:World) (x y:Value) (t:TypeId):∀ j u,[x,y][j]? =some u→(w.alloc (.cells #[x,y] t)).cell? ((bY w 0:Addr).add j)=some u:=by
 intro j u hj;have hk:cN (w.alloc (.cells #[x,y] t)) w t [x,y]:=heap_alloc_new w _;rw[Addr.add_lit,Nat.zero_add,hk.cell];exact hj
theorem Tryz.infoC:(Tryz.prog.info? 51).map (fun i=>(i.zero,i.size,i.bytes))=some (some (.agg #[bU 0,bV ByteArray.empty]),2,24):=by kernel_rfl
theorem Vf (m:Nat) (w0:World) (fn:FuncId) (sv:Value) (Bs l D:Nat) (hBl:Bs≠l) (hDl:D≠l) (hDB:D≠Bs) (h0B:w0.heap.size≤Bs) (h0l:w0.heap.size≤l) (N:Nat) (hN:N≤1000000) (ss:List gZ) (x1:Int) (x2:ByteArray) (W:World) (h:ApAt w0 fn sv Bs l D ss W) (hlen:ss.length<N):YieldAt Fence.wide m prog l #[Hx (x1,x2)] W fun e W'=>e= .returned (.bool true)∧ApAt w0 fn sv Bs l D (ss++[(x1,x2)]) W'∧KeepsWalks W W':=by
 have hne:35≠51:=by decide
 obtain⟨i0,hi,hz0,hz1,hz2⟩:=info_parts Tryz.infoC
 refine⟨fn,#[cD,sv,.pointer (bY Bs 0),undef,cD,undef,sv,Hx (x1,x2),undef,undef,undef,undef,undef],apAssign,apBody,by simpa [apRec]using run_yield (P:=prog) (args:=#[Hx (x1,x2)]) h.L rfl,roundIn_of_wpIn trivial ?_⟩
 unfold apAssign
 gi_wp2_with gi_round_op_a
 have hk0:KeepsWalks W (W.alloc (.cells #[bU x1,bV x2] 51)):=KeepsWalks.alloc _ _
 have h:=KC w0 fn sv Bs l D ss W (.cells #[bU x1,bV x2] 51) h
 have hX:cN (W.alloc (.cells #[bU x1,bV x2] 51)) W 51 [bU x1,bV x2]:=heap_alloc_new W _
 generalize W.alloc (.cells #[bU x1,bV x2] 51)=Wa at hk0 h hX ⊢
 generalize W.heap.size=px at hX ⊢
 obtain⟨v,hv,hrow,_⟩:=h.box
 have hl:l<Wa.heap.size:=(Array.getElem?_eq_some_iff.1 h.L).1
 have hbr:=run_beginRound (P:=prog) h.L rfl
 have hXl:px≠l:=fun e=>by
  have h1:=h.L;unfold cN at hX;rw[e,h1]at hX;cases hX
 obtain⟨W2,hW2⟩:∃ W2,Wa.putObj l (.loop {apRec fn sv Bs D .ready none with state:= .busy})=W2:=⟨_,rfl⟩
 rw[hW2]at hbr
 have hg2:Wa.grownBy W2 (some l):=by rw[← hW2];exact grownBy_putObj_a _ _ _
 have hk2:KeepsWalks W W2:=hk0.trans (by rw[← hW2];exact KeepsWalks.putObj _ h.L rfl)
 have hv2:W2.heap[Bs]? =some (.cells #[v] 35 (0,0)):=by rw[← hW2];exact(World.putObj_heap_other hBl).trans hv
 have hK2:W2.heap[D]? =some (.deferred (some [])):=by rw[← hW2];exact(World.putObj_heap_other hDl).trans h.K
 have hL2:W2.heap[l]? =some (.loop {apRec fn sv Bs D .ready none with state:= .busy}):=by rw[← hW2];exact World.putObj_heap_same hl
 have hX2:cN W2 px 51 [bU x1,bV x2]:=by rw[← hW2];exact(World.putObj_heap_other hXl).trans hX
 have hrow2:W2.ownsRow w0 51 2 v ss.length (ss.flatMap ki):=hrow.kept hg2 (ownsRow_ne_a hrow h.L (fun cur e=>by first|cases e|exact hne (Obj.cells.inj e).2.1))
 have hb2:Below w0 w0 W2:=h.bZ.grown hg2 h.bZ.size (fun k e=>by cases e;exact h0l)
 obtain⟨hc2,hf2⟩:=cell_of_box_a hv2
 have hBlt:Bs<W2.heap.size:=(Array.getElem?_eq_some_iff.1 hv2).1
 have hl2:l<W2.heap.size:=(Array.getElem?_eq_some_iff.1 hL2).1
 have hDlt:D<W2.heap.size:=(Array.getElem?_eq_some_iff.1 hK2).1
 have ne_of:∀ {j:Nat} {o:Obj},W2.heap[j]? =some o→(∀ cur,o≠ .cells cur 51 (0,0))→some j≠v.ownBlock:=fun hj hno=>by
  rcases ownsRow_ne_a hrow2 hj hno with e|e
  (·rw[e];simp);exact fun e'=>e e'.symm
 clear hW2
 have y:=hX2.cell
 refine⟨W2,hbr,?_⟩
 clear hbr
 unfold apBody
 gi_wp2_with (first
  |(gi_at_builtin;refine wpListIn_append_own _ rfl _ _ 35 rfl w0 51 i0 _ 2 24 underlying35 hi hz0 hz1 hz2 rfl ak _ _ _ rfl (hrow2.alloc _) ⟨W2,0,none⟩ 1 1 [.int .i64 x1,.string x2] rfl rfl (cell_two_new _ _ _ _) (by simp[Value.oneCell']) aH af (by have:=hb2.size;simp;omega) ?_;intro v' w3 hown' hg3 hnil3;have hv3:w3.heap[Bs]? =some (.cells #[v] 35 (0,0)):=(hg3.block Bs au (ne_of hv2 (fun cur e=>by first|cases e|exact hne (Obj.cells.inj e).2.1))).trans ((Below.heap_alloc _ _ Bs hBlt).trans hv2);obtain⟨hc3,hf3⟩:=cell_of_box_a hv3;obtain⟨g',cap',cur',rfl,hbase',hgb',hr1,hr2,hr3,hr4⟩:∃ g' cap' cur',v'= .slice (some ⟨g',0,none⟩) (ss.length+1) cap'∧w0.heap.size≤g'∧w3.heap[g']? =some (.cells cur' 51 (0,0))∧ss.length+1≤cap'∧cap'≤maxLen∧cur'.size=cap'*2∧cur'.toList.take ((ss.length+1)*2)=ss.flatMap ki++[.int .i64 x1,.string x2]:=hown'.2.elim (fun q=>absurd q.2 af) (fun q=>q);go_frame)
  |gi_round_op_a)
 have hg3':(W2.alloc (.cells #[bU x1,bV x2] 51)).grownBy w3 v.ownBlock:=hg3
 have hL3:w3.heap[l]? =some (.loop {apRec fn sv Bs D .ready none with state:= .busy}):=(hg3'.block l au (ne_of hL2 (fun cur e=>by first|cases e|exact hne (Obj.cells.inj e).2.1))).trans ((Below.heap_alloc _ _ l hl2).trans hL2)
 have hK3:w3.heap[D]? =some (.deferred (some [])):=(hg3'.block D au (ne_of hK2 (fun cur e=>by first|cases e|exact hne (Obj.cells.inj e).2.1))).trans ((Below.heap_alloc _ _ D hDlt).trans hK2)
 obtain⟨w4,hw4⟩:∃ w4,w3.setCell (bY Bs 0) (bW (bY g' 0) (ss.length+1) cap')=w4:=⟨_,rfl⟩
 rw[hw4]
 have hg4:w3.grownBy w4 (some Bs):=by rw[← hw4];exact grownBy_setCell0_a _ _ _
 have hv4:w4.heap[Bs]? =some (.cells #[bW (bY g' 0) (ss.length+1) cap'] 35 (0,0)):=by rw[← hw4];exact heap_setCell_box_a _ hv3
 have hL4:w4.heap[l]? =some (.loop {apRec fn sv Bs D .ready none with state:= .busy}):=(hg4.block l (Array.getElem?_eq_some_iff.1 hL3).1 (fun e=>hBl (by cases e;rfl))).trans hL3
 have hK4:w4.heap[D]? =some (.deferred (some [])):=(hg4.block D (Array.getElem?_eq_some_iff.1 hK3).1 (fun e=>hDB (by cases e;rfl))).trans hK3
 have hrow4:=hown'.kept hg4 (ownsRow_ne_a hown' hv3 (fun cur e=>by first|cases e|exact hne (Obj.cells.inj e).2.1))
 have hl4:l<w4.heap.size:=(Array.getElem?_eq_some_iff.1 hL4).1
 have hb3:Below w0 w0 w3:=(hb2.alloc hb2.size _).grown hg3' (by have:=hb2.size;simp;omega) (fun k e=>(hrow2.lt k e).1)
 have hb4:Below w0 w0 w4:=hb3.grown hg4 hb3.size (fun k e=>by cases e;exact h0B)
 have hk4:KeepsWalks W w4:=((hk2.trans (KeepsWalks.alloc _ _)).trans (KeepsWalks.of_grownBy hg3' (ownsRow_not_walk_a (hrow2.alloc _)))).trans (by rw[← hw4];exact KeepsWalks.setCell _ _ _)
 clear hw4
 refine⟨_,_,run_endRound none hL4,rfl,⟨⟨_,(World.putObj_heap_other hBl).trans hv4,?_,by simp⟩,World.putObj_heap_same hl4,(World.putObj_heap_other hDl).trans hK4,hb4.grown (grownBy_putObj_a _ _ _) hb4.size (fun k e=>by cases e;exact h0l)⟩,hk4.trans (KeepsWalks.putObj _ hL4 rfl)⟩
 have:=hrow4.kept (grownBy_putObj_a w4 l (.loop {{apRec fn sv Bs D .ready none with state:= .busy}with state:=if(none:Option Code).isNone then .ready else .done,pending:=none})) (ownsRow_ne_a hrow4 hL4 (fun cur e=>by first|cases e|exact hne (Obj.cells.inj e).2.1))
 simpa [ki]using this
theorem KE {H:Type} (n Bm b nn N:Nat) (hN:N≤1000000) (D0:DataW H) {R:Value→Option (DataW H×List MemPlace)} (hD:Maps.size D0≤N) (w:World) (hBm:Bm<w.heap.size) (hm:b_ w Bm 0 (.map (some b))) (hown:w.ownsMap prog 51 R b nn D0):CallsIn Fence.wide n prog 96 #[cD,.func (.func 60) #[] #[.pointer (bY Bm 0)]] w fun e w'=>∃ (v:Value) (left:Go.Lit→Bool) (ss:List gZ),e= .returned v∧(∀ kl,left kl=false)∧uK D0 left ss∧ss.length≤Maps.size D0∧w'.ownsRow w 51 2 v ss.length (ss.flatMap ki)∧(v=bW none 0 0↔ss=[])∧Below w w w':=by
 have eg:∀ args w,(callFunc 60 args).run prog w= .ok (.enter 60 args) w:=enters_of func60 ah rfl
 have hne:35≠51:=by decide
 refine callsIn_of_wp_marks func96 rfl trivial ?_ rfl
 simp only[ntmps96,List.size_toArray,List.length_cons,List.length_nil,Nat.reduceAdd,Nat.reduceSub,Array.replicate_succ,Array.replicate_zero,List.push_toArray,List.append_toArray,List.nil_append,List.cons_append]
 gi_wp2
 refine wpIn_rangeFunc ?_
 intro fn hfn
 rw[show Fence.wide.round=none from rfl]
 obtain⟨W0,hW0⟩:∃ W0,w.alloc (.cells #[cD] 35)=W0:=⟨_,rfl⟩
 have hs0:W0.heap.size=w.heap.size+1:=by rw[← hW0];simp
 have hv0:W0.heap[w.heap.size]? =some (.cells #[cD] 35 (0,0)):=by rw[← hW0];exact World.alloc_heap_new w _
 have hb0:Below w w W0:=by rw[← hW0];exact(aaf _ w).alloc aac _
 rw[hW0]
 obtain⟨W1,hW1⟩:∃ W1,(W0.alloc (.deferred (some []))).alloc (.loop (apRec fn (.func (.func 60) #[] #[.pointer (bY Bm 0)]) w W0 .ready none))=W1:=⟨_,rfl⟩
 have hold:∀ k,k<W0.heap.size→W1.heap[k]? =W0.heap[k]? :=fun k hk=>by
  rw[← hW1];exact(Below.heap_alloc _ _ k au).trans (Below.heap_alloc _ _ k hk)
 have hb1:Below w w W1:=by rw[← hW1];exact(hb0.alloc hb0.size _).alloc (by have:=hb0.size;simp;omega) _
 have hs1:W1.heap.size=W0.heap.size+2:=by rw[← hW1];simp
 have hM:ApAt w fn (.func (.func 60) #[] #[.pointer (bY Bm 0)]) w (W0+1) W0 [] W1:=
  ⟨⟨_,(hold w af).trans hv0,⟨rfl,.inl ⟨rfl,rfl⟩⟩,by simp⟩,
   by rw[← hW1];have:=World.alloc_heap_new (W0.alloc (.deferred (some []))) (.loop (apRec fn (.func (.func 60) #[] #[.pointer (bY Bm 0)]) w W0 .ready none));rwa [aaI]at this,
   by rw[← hW1];exact(Below.heap_alloc _ _ _ ai).trans (World.alloc_heap_new W0 _),hb1⟩
 have hown1:W1.ownsMap prog 51 R b nn D0:=by
  have hbl:=hown.lt;obtain⟨es,clock,hb,Ft,hs,hD⟩:=hown;exact⟨es,clock,(hb1.block b hbl).trans hb,Ft,hs,hD⟩
 refine⟨W0.heap.size+1,[{target:= .collected W0,args:=#[]}],W1,{target:= .fn (.func 60) #[.pointer (bY Bm 0)],args:=#[.func (.yield (W0+1)) #[] #[]]},W1,60,
  #[.func (.yield (W0+1)) #[] #[]]++#[.pointer (bY Bm 0)],W1,?_,?_,?_,?_,fun h=>by simp[Fence.wide]at h,?_⟩
 ·
  rw[← hW1];exact run_enterLoop_outer _ _ _ _ _
 ·
  simp[resolve,go_sem]
 ·
  intro f' hf';trivial
 ·
  simp[invoke,go_sem,eg]
 ·
  refine(Ny _ (W0+1) Bm b nn D0 (ApAt w fn (.func (.func 60) #[] #[.pointer (bY Bm 0)]) w (W0+1) W0)
   (fun pre x W hJ hx hl=>Vf _ w fn _ w (W0+1) W0 af af af aac af N hN pre x.1 x.2 W hJ af) W1 (ap_abides _ _ _ _ _ _ _ hb1.size) (fun ss w o=>KC _ _ _ _ _ _ ss w o) ((hb1.cell (p:=bY Bm 0) hBm).trans hm) hown1 hM).mono ?_
  rintro e W2 ⟨⟨v0,rfl⟩,left,ss,hl0,hS,hsz,h2⟩
  obtain⟨v,hv,hrow,hnil⟩:=h2.box
  have hend:=run_endLoop (P:=prog) h2.L (by simp[apRec])
  obtain⟨W3,hW3⟩:∃ W3,W2.putObj (W0+1) (.loop {apRec fn (.func (.func 60) #[] #[.pointer (bY Bm 0)]) w W0 .ready none with state:= .exhausted})=W3:=⟨_,rfl⟩
  rw[hW3]at hend
  have hg3:W2.grownBy W3 (some (W0+1)):=by rw[← hW3];exact grownBy_putObj_a _ _ _
  have hv3:W3.heap[w.heap.size]? =some (.cells #[v] 35 (0,0)):=by rw[← hW3];exact(World.putObj_heap_other af).trans hv
  have hK3:W3.heap[W0.heap.size]? =some (.deferred (some [])):=by rw[← hW3];exact(World.putObj_heap_other af).trans h2.K
  have hrow3:=hrow.kept hg3 (ownsRow_ne_a hrow h2.L (fun cur e=>by first|cases e|exact hne (Obj.cells.inj e).2.1))
  have hb3:Below w w W3:=h2.bZ.grown hg3 h2.bZ.size (fun k e=>by cases e;omega)
  obtain⟨hc3,hf3⟩:=cell_of_box_a hv3
  clear hW3
  refine⟨none,W3,hend,?_⟩
  gi_wp2
  rw[← hs0]
  refine⟨by simp,.inl ⟨_,_,rfl,run_takeDeferred hK3,?_⟩⟩
  exact⟨_,results_tmp rfl _ _ _,v,left,ss,rfl,hl0,hS,hsz,hrow3.kept (grownBy_putObj_a _ _ _) (ownsRow_ne_a hrow3 hK3 (fun cur e=>by first|cases e|exact hne (Obj.cells.inj e).2.1)),hnil,hb3.grown (grownBy_putObj_a _ _ _) hb3.size (fun k e=>by cases e;omega)⟩
end
section
open Go Go.RowKit Go.Lib Go.Proofs
def Hy (x y:Int):Int:=if x<y then -1 else if y<x then 1 else 0
def DZ (x y:ByteArray):Int:=if x.data.toList<y.data.toList then -1 else if y.data.toList<x.data.toList then 1 else 0
def QY (a b:gZ):Int:=if Hy a.1 b.1=0 then DZ a.2 b.2 else Hy a.1 b.1
theorem FO (x:Int) (w:World):Calls prog 99 #[bU x] w fun e w'=>e= .returned (.bool false)∧w'=w:=by
 go_enter func99,ntmps99;go_wp2;go_ret;exact⟨by simp,rfl⟩
theorem FP (x:ByteArray) (w:World):Calls prog 100 #[bV x] w fun e w'=>e= .returned (.bool false)∧w'=w:=by
 go_enter func100,ntmps100;go_wp2;go_ret;exact⟨by simp,rfl⟩
theorem KF (x y:Int) (w:World):Calls prog 62 #[bU x,bU y] w fun e w'=>e= .returned (bU (Hy x y))∧w'=w:=by
 have H1:=aa (fun W=>FO x W);have H2:=aa (fun W=>FO y W);generalize hc:Hy x y=c;have HC:=aa hc;clear hc;go_enter func62,ntmps62;rcases Int.lt_trichotomy x y with h|h|h
 (·have HE:=aa (show c=-1 by rw[← HC.o];unfold Hy;rw[if_pos h]);have z:decide (x<y)=true:=decide_eq_true h;clear h;go_wp2_with (first|(go_at_call 99;with_reducible refine(H1.o _).mono ?_;rintro e w' ⟨rfl,rfl⟩)|(go_at_call 99;with_reducible refine(H2.o _).mono ?_;rintro e w' ⟨rfl,rfl⟩));go_ret;exact⟨by rw[HE.o];rfl,rfl⟩)
 (·have HE:=aa (show c=0 by rw[← HC.o,h];unfold Hy;simp);have z:decide (x<y)=false:=decide_eq_false af;have z':decide (y<x)=false:=decide_eq_false af;clear h;go_wp2_with (first|(go_at_call 99;with_reducible refine(H1.o _).mono ?_;rintro e w' ⟨rfl,rfl⟩)|(go_at_call 99;with_reducible refine(H2.o _).mono ?_;rintro e w' ⟨rfl,rfl⟩));go_ret;exact⟨by rw[HE.o];rfl,rfl⟩);have HE:=aa (show c=1 by rw[← HC.o];unfold Hy;rw[if_neg af,if_pos h]);have z:decide (x<y)=false:=decide_eq_false af;have z':decide (y<x)=true:=decide_eq_true h;clear h;go_wp2_with (first|(go_at_call 99;with_reducible refine(H1.o _).mono ?_;rintro e w' ⟨rfl,rfl⟩)|(go_at_call 99;with_reducible refine(H2.o _).mono ?_;rintro e w' ⟨rfl,rfl⟩));go_ret;exact⟨by rw[HE.o];rfl,rfl⟩
theorem zu (x y:ByteArray):x.data.toList<y.data.toList∨x=y∨y.data.toList<x.data.toList:=by
 by_cases h1:x.data.toList<y.data.toList
 (·exact .inl h1);by_cases h2:y.data.toList<x.data.toList
 (·exact .inr (.inr h2));exact .inr (.inl (ByteArray.ext (Array.toList_inj.1 (List.le_antisymm (List.not_lt.1 h2) (List.not_lt.1 h1)))))
theorem KG (x y:ByteArray) (w:World):Calls prog 63 #[bV x,bV y] w fun e w'=>e= .returned (bU (DZ x y))∧w'=w:=by
 have H1:=aa (fun W=>FP x W);have H2:=aa (fun W=>FP y W);generalize hc:DZ x y=c;have HC:=aa hc;clear hc;go_enter func63,ntmps63;have hb:Op.bytesLess x.toList y.toList=decide (x.data.toList<y.data.toList):=(by rw[bytesLess_eq,Lib.toList_data,Lib.toList_data]);rcases zu x y with h|h|h
 (·have HE:=aa (show c=-1 by rw[← HC.o];unfold DZ;rw[if_pos h]);rw[decide_eq_true h]at hb;clear h;go_wp2_with (first|(go_at_call 100;with_reducible refine(H1.o _).mono ?_;rintro e w' ⟨rfl,rfl⟩)|(go_at_call 100;with_reducible refine(H2.o _).mono ?_;rintro e w' ⟨rfl,rfl⟩));go_ret;exact⟨by rw[HE.o];rfl,rfl⟩)
 (·subst h;have HE:=aa (show c=0 by rw[← HC.o];unfold DZ;rw[if_neg (List.lt_irrefl _),if_neg (List.lt_irrefl _)]);rw[decide_eq_false (List.lt_irrefl _)]at hb;go_wp2_with (first|(go_at_call 100;with_reducible refine(H1.o _).mono ?_;rintro e w' ⟨rfl,rfl⟩)|(go_at_call 100;with_reducible refine(H2.o _).mono ?_;rintro e w' ⟨rfl,rfl⟩));go_ret;exact⟨by rw[HE.o];rfl,rfl⟩);have hn:¬x.data.toList<y.data.toList:=fun k=>List.lt_irrefl _ (List.lt_trans h k);have HE:=aa (show c=1 by rw[← HC.o];unfold DZ;rw[if_neg hn,if_pos h]);rw[decide_eq_false hn]at hb;have z:(x.toList==y.toList)=false:=by
  rw[beq_eq_false_iff_ne,Lib.toList_data,Lib.toList_data];intro e;rw[e]at h;exact List.lt_irrefl _ h
 clear h hn;go_wp2_with (first|(go_at_call 100;with_reducible refine(H1.o _).mono ?_;rintro e w' ⟨rfl,rfl⟩)|(go_at_call 100;with_reducible refine(H2.o _).mono ?_;rintro e w' ⟨rfl,rfl⟩));go_ret;exact⟨by rw[HE.o];rfl,rfl⟩
theorem or_two (x y:Int) (g:Nat) (w:World) (h0:b_ w g 0 (bU x)) (h1:b_ w g 1 (bU y)):Calls prog 61 #[bW (bY g 0) 2 2] w fun e w'=>e= .returned (bU (if x=0 then y else x))∧w'=w:=by
 generalize hc:(if x=0 then y else x)=c;have HC:=aa hc;clear hc;go_enter func61,ntmps61;go_wp2;go_loop [8] (fun i=>(i=bU 0)∨(i=bU 1∧Hid (x=0))∨(i=bU 2∧Hid (x=0∧y=0))) (fun i=>2 - (RowKit.intOf i).toNat);(case atStart=>exact .inl rfl);rcases hrel with rfl|⟨rfl,HX⟩|⟨rfl,HX⟩
 ·by_cases hx:x=0
  (·have HX:=aa hx;rw[hx]at h0;clear hx;go_wp2;go_round;exact .inr (.inl ⟨rfl,HX⟩);decide);have z:(x != 0)=true:=(by simpa using hx);have HE:=aa (show c=x by rw[← HC.o,if_neg hx]);clear hx;go_wp2;go_ret;exact⟨by rw[HE.o];rfl,rfl⟩
 ·by_cases hy:y=0
  (·have HY:=aa hy;rw[hy]at h1;clear hy;go_wp2;go_round;exact .inr (.inr ⟨rfl,aa ⟨HX.o,HY.o⟩⟩);decide);have z:(y != 0)=true:=(by simpa using hy);have HE:=aa (show c=y by rw[← HC.o,if_pos HX.o]);clear hy;go_wp2;go_ret;exact⟨by rw[HE.o];rfl,rfl⟩
 have HE:=aa (show c=0 by rw[← HC.o,if_pos HX.o.1,HX.o.2]);go_wp2;go_ret;exact⟨by rw[HE.o];rfl,rfl⟩
theorem KH (a b:gZ) (w:World):Calls prog 31 #[.agg #[bU a.1,bV a.2],.agg #[bU b.1,bV b.2]] w fun e w'=>e= .returned (bU (QY a b))∧∃ q os',w'=Go.Sort.grow (w.drewN q) os':=by
 obtain⟨a1,a2⟩:=a
 obtain⟨b1,b2⟩:=b
 have G0:=aa (fun W=>KF a1 b1 W)
 have G1:=aa (fun W=>KG a2 b2 W)
 unfold QY
 dsimp only
 generalize Hy a1 b1=x0 at G0 ⊢
 generalize DZ a2 b2=x1 at G1 ⊢
 have HO:=aa (fun g W h0 h1=>or_two x0 x1 g W h0 h1)
 generalize (if x0=0 then x1 else x0)=c at HO ⊢
 go_enter func31,ntmps31
 go_wp2_with fail
 generalize hW:(w.alloc (.cells #[bU a1,bV a2] 51)).alloc (.cells #[bU b1,bV b2] 51)=W
 have c0:b_ W w 0 (bU a1):=by rw[← hW];simp
 have c1:b_ W w 1 (bV a2):=by rw[← hW];simp
 have d0:b_ W (w+1) 0 (bU b1):=by rw[← hW];simp
 have d1:b_ W (w+1) 1 (bV b2):=by rw[← hW];simp
 have HW:=aa hW
 clear hW
 refine wp_region_still_tail 10 ah ah ?_
 simp only[List.take_succ_cons,List.take_zero,List.drop_succ_cons,List.drop_zero]
 iterate 4 still_step
 still_call (G0.o _)
 iterate 4 still_step
 still_call (G1.o _)
 refine wpStill_nil ?_
 change wpList _ _ _ _ _ W.drew
 generalize hD:W.drew=D
 have HD:=aa hD
 clear hD c0 c1 d0 d1
 go_wp2_with (go_at_call 61;refine(HO.o D _ ai ai).mono ?_;rintro e w' ⟨rfl,rfl⟩)
 go_ret
 refine⟨rfl,1,#[.cells #[bU a1,bV a2] 51,.cells #[bU b1,bV b2] 51,.cells #[bU x0,bU x1] 3],?_⟩
 rw[← HD.o, ← HW.o,Go.Sort.alloc_eq_grow,Go.Sort.alloc_eq_grow,Go.Sort.alloc_eq_grow,Go.Sort.grow_grow]
 show Go.Sort.grow (Go.Sort.grow (w.drewN 1) _) _=_
 rw[Go.Sort.grow_grow]
 rfl
end
section
open Go Go.RowKit Kb Go.Lib Go.Sort Go.Proofs
theorem BJ (a b:gZ):ltOf QY a b=decide (Ln.Dx a b):=by
 unfold ltOf;rw[Bool.eq_iff_iff,decide_eq_true_eq,decide_eq_true_eq];unfold QY Hy DZ Ln.Dx;rcases Int.lt_trichotomy a.1 b.1 with h|h|h
 (·simp[h])
 ·rw[h];simp only[Int.lt_irrefl,if_false,if_true];rcases zu a.2 b.2 with h2|h2|h2
  (·simp[h2])
  (·rw[h2];simp[List.lt_irrefl]);have hn:¬a.2.data.toList<b.2.data.toList:=fun k=>List.lt_irrefl _ (List.lt_trans h2 k);simp[h2,hn]
 have h1:¬a.1<b.1:=af;have h2:¬a.1=b.1:=af;simp[h,h1,h2]
theorem OZ {a b:gZ} (h1:¬Ln.Dx a b) (h2:¬Ln.Dx b a):a=b:=by
 obtain⟨a1,a2⟩:=a;obtain⟨b1,b2⟩:=b;unfold Ln.Dx at h1 h2;dsimp only at h1 h2;rcases Int.lt_trichotomy a1 b1 with h|h|h
 (·exact absurd (.inl h) h1)
 ·subst h;rcases zu a2 b2 with h3|h3|h3
  (·exact absurd (.inr ⟨rfl,h3⟩) h1)
  (·rw[h3]);exact absurd (.inr ⟨rfl,h3⟩) h2
 exact absurd (.inl h) h2
theorem X4:SWO (ltOf QY) where
 irrefl x:=by rw[BJ];simp[Ln.oW]
 trans x y z h1 h2:=by rw[BJ,decide_eq_true_eq]at*;exact Ln.yX h1 h2
 ntrans x y z h1 h2:=by
  rw[BJ,decide_eq_false_iff_not]at*;intro h3;by_cases h4:Ln.Dx y x
  (·exact h2 (Ln.yX h4 h3));rw[OZ h1 h4]at h3;exact h2 h3
theorem KJ:∀ (xs:List gZ) (i c:Nat) (x:gZ) (u:Value),xs[i]? =some x→(ki x)[c]? =some u→(xs.flatMap ki)[i*2+c]? =some u
 |[],i,c,x,u,h,_=>by simp at h
 |y :: l,0,c,x,u,h,hu=>by
  simp at h;subst h;rw[List.flatMap_cons,Nat.zero_mul,Nat.zero_add,List.getElem?_append_left (List.getElem?_eq_some_iff.1 hu).1];exact hu
 |y :: l,i+1,c,x,u,h,hu=>by
  rw[List.flatMap_cons,List.getElem?_append_right (by show 2≤_;omega)];have:=KJ l i c x u aK hu;rw[show(i+1)*2+c - (ki y).length=i*2+c by show(i+1)*2+c - 2=_;omega];exact this
theorem QZ {w:World} {g:Nat} {cur:Array Value} {xs:List gZ} (hb:cN w g 51 cur.toList) (ht:cur.toList.take (xs.length*2)=xs.flatMap ki):HoldsK ki 2 w g 0 xs.toArray:=fun t ht'=>by
 have ht2:t<xs.length*2:=(by rw[size_flatK]at ht';simpa using ht');have hj:t / 2<xs.length:=af;rw[get_flatK _ _ _ _ (by simpa using ht2),Nat.zero_add,hb.cell,hb.frozen];have e:xs.toArray[t / 2]! =xs[t / 2]:=(by rw[getElem!_pos xs.toArray (t / 2) (by simpa using hj)];simp);rw[e];(have hc:t % 2<(ki xs[t / 2]).length:=by show _<2;omega);have h:=KJ xs (t / 2) (t % 2) xs[t / 2] _ (List.getElem?_eq_getElem hj) (List.getElem?_eq_getElem hc);rw[show t / 2*2+t % 2=t by omega, ← ht,List.getElem?_take,if_pos ht2]at h;exact⟨by rw[h,getElem!_pos (ki xs[t / 2]) (t % 2) hc];rfl,rfl⟩
theorem Vg {w:World} {g:Nat} {d:Array gZ} (h:HoldsK ki 2 w g 0 d) (hg:g<w.heap.size):Sq dI w Any (bY g 0) d.toList:=by
 refine⟨d.toList.map ki,by simp,fun _=>⟨g,0,rfl,trivial,hg,fun j cs hj i v hv=>?_⟩,fun j cs x hc hx=>?_⟩
 ·rw[List.getElem?_map]at hj;obtain⟨x,hx,rfl⟩:=Option.map_eq_some_iff.1 hj;(have hjl:j<d.size:=by have:=(List.getElem?_eq_some_iff.1 hx).1;simpa using this);have hi:i<2:=(List.getElem?_eq_some_iff.1 hv).1;have hc:=(h.cell hjl hi).1;have ex:d[j]! =x:=by
   rw[getElem!_pos d j hjl];have:=(List.getElem?_eq_some_iff.1 hx).2;simpa using this
  rw[ex,getElem!_pos (ki x) i (List.getElem?_eq_some_iff.1 hv).1]at hc;show b_ w g (0+j*2+i) v;rw[hc];exact congrArg some (List.getElem?_eq_some_iff.1 hv).2
 rw[List.getElem?_map,hx]at hc;exact(Option.some.inj hc).symm
def SortP (B:Nat) (A:Option Addr) (xs:List gZ) (w0:World) (e:Ending) (w':World):Prop:=e= .returned (.tuple #[])∧∃ ys:List gZ,ys.Perm xs∧ys.Pairwise (fun a b=>¬Ln.Dx b a)∧Sq dI w' Any A ys∧Below B w0 w'
theorem Nz (B:Nat) (A:Option Addr) (n cap:Nat) (xs:List gZ) (w0 w:World) (hn:xs.length=n) (hown:w.ownsRow B 51 2 (bW A n cap) n (xs.flatMap ki)) (hB:Below B w0 w) (hbig:xs.length<1000000):Calls prog 59 #[bW A n cap,.func (.func 31) #[] #[]] w (SortP B A xs w0):=by
 subst hn;rcases hown.2 with⟨he,hz⟩|⟨g,cap',cur,hv,hgB,hb,h1,h2,h3,h4⟩
 (·have hx:xs=[]:=List.eq_nil_of_length_eq_zero hz;subst hx;refine(AnyF.slices_SortFunc_none {y_ with} A cap _ w).mono fun e w' ⟨he,hw⟩=>?_;subst hw;exact⟨he,[],List.Perm.refl _,List.Pairwise.nil,Sq.nil,hB⟩);by_cases hne:xs=[]
 (·subst hne;refine(AnyF.slices_SortFunc_none {y_ with} A cap _ w).mono fun e w' ⟨he,hw⟩=>?_;subst hw;exact⟨he,[],List.Perm.refl _,List.Pairwise.nil,Sq.nil,hB⟩);injection hv with e1 e2 e3;subst e1;have F0:g<w.heap.size:=(Array.getElem?_eq_some_iff.1 hb).1;have hH:HoldsK ki 2 w g 0 xs.toArray:=QZ (cur:=cur) hb h4;have eg:∀ args w,(callFunc 31 args).run prog w= .ok (.enter 31 args) w:=enters_of func31 ah rfl;have h:=AnyQ.slices_SortFunc y_ 2 Tryz.isAgg51 Tryz.sizeOf51 ki (fun _=>rfl) (fun x v hv=>by simp[ki]at hv;rcases hv with rfl|rfl<;>rfl) QY X4 31 #[] g 0 cap xs.toArray w eg
  (fun m os dk _ x y=>KH x y _) hH F0 au
 rw[List.size_toArray]at h;refine h.mono fun e w' ⟨he,d',n,os,hp,hs,hw⟩=>⟨he,d'.toList,?_,?_,?_,?_⟩
 (·have:=hp.2.2;have e1:d'.extract 0 xs.length=d':=(by rw[Array.extract_eq_self_of_le (by rw[hp.1];simp)]);have e2:xs.toArray.extract 0 xs.length=xs.toArray:=(by rw[Array.extract_eq_self_of_le ai]);rw[e1,e2]at this;simpa using this)
 (·rw[List.pairwise_iff_getElem];intro i j hi hj hij;have:=hs i j (aaG _) hij (by have:=hp.1;simp at this hj;omega);rw[BJ,decide_eq_false_iff_not,getElem!_pos d' j (by simpa using hj),getElem!_pos d' i aX]at this;simpa using this)
 (·rw[hw];exact Vg (holdsK_sortWorldK_c _ _ _ _ _ _ _ _ _ hH F0 hp.1) (aaD F0 (size_sortWorldK_c _ _ _ _ _ _ _ _)));rw[hw];unfold sortWorldK;have hg:Below B w0 (putRowK ki 2 (Sort.ahead w n) g 0 d'):=Lib.below_putRow hB hgB;exact⟨hg.os,hg.tape,hg.output,aaC hg.size (by simp[grow]),fun i hi=>by
  rw[← hg.block i hi];simp only[grow];rw[Array.getElem?_append_left (by unfold putRowK;rw[size_putRow];show i<w.heap.size;omega)]⟩
def Vh (f:gZ→Option Value) (w:World) (e:Ending) (w':World):Prop:=∃ A c l,e= .returned (.slice A l.length c)∧l.Pairwise Ln.Dx∧(∀ z,gX z→(z∈l↔(f z).isSome=true))∧(∀ z∈l,gX z)∧Sq dI w' Any A l∧Below w w w'
theorem Q0 (mb:Option Nat) (w:World):Calls prog 28 #[.map mb] w fun e w'=>e= .returned (.func (.func 60) #[] #[.pointer (bY w 0)])∧w'=w.alloc (.cells #[.map mb] 78):=by
 go_enter func28,ntmps28;go_wp2;go_ret;exact⟨rfl,rfl⟩
def Vi {H:Type} (D0:DataW H) (w:World) (e:Ending) (w':World):Prop:=∃ (v:Value) (left:Go.Lit→Bool) (ss:List gZ),e= .returned v∧(∀ kl,left kl=false)∧uK D0 left ss∧ss.length≤Maps.size D0∧w'.ownsRow w 51 2 v ss.length (ss.flatMap ki)∧Below w w w'
theorem Hz {H:Type} (Bm b nn:Nat) (hN:nn≤1000000) (D0:DataW H) {R:Value→Option (DataW H×List MemPlace)} (w:World) (hBm:Bm<w.heap.size) (hm:b_ w Bm 0 (.map (some b))) (hown:w.ownsMap prog 51 R b nn D0):Calls prog 58 #[.func (.func 60) #[] #[.pointer (bY Bm 0)]] w (Vi D0 w):=by
 have HC:=aa ((callsIn_wide (n:=0)).1 (KE 0 Bm b nn nn hN D0 hown.size_le w hBm hm hown));generalize hP:Vi D0 w=P;have HP:=aa (show ∀ e w',Vi D0 w e w'→P e w' from fun e w' h=>hP▸h);clear hP hm hown;go_enter func58,ntmps58;go_wp2_with (go_at_call 96;refine HC.o.mono ?_;rintro e w' ⟨v,left,ss,rfl,h1,h2,h6,h3,h4,h5⟩);exact HP.o (.returned v) _ ⟨v,left,ss,rfl,h1,h2,h6,h3,h5⟩
theorem KL (Bm g n:Nat) (hN:n<1000000) (f:gZ→Option Value) (w:World) (hBm:Bm<w.heap.size) (hm:b_ w Bm 0 (.map (some g))) (hM:ij w g n f):Calls prog 27 #[.func (.func 60) #[] #[.pointer (bY Bm 0)],.func (.func 31) #[] #[]] w (Vh f w):=by
 obtain⟨D,h1,h2,h3⟩:=hM;have HD:=aa h1.size_le;have H3:=aa h3;have HC:=aa (Hz Bm g n af D w hBm hm h1);have H1:=aa h1;generalize hP:Vh f w=P;have HP:=aa (show ∀ e w',Vh f w e w'→P e w' from fun e w' h=>hP▸h);clear hP hm h1 h2 h3;go_enter func27,ntmps27;go_upto_region 2 with(go_at_call 58;refine HC.o.mono ?_;rintro e w2 ⟨v,left,ss,rfl,hl,hS,hsz,hrow,hb⟩);have HL:=aa (show ss.length≤n from aaC hsz HD.o);obtain⟨A,c,rfl⟩:∃ A c,v=bW A ss c:=by
  rcases hrow.2 with⟨he,hz⟩|⟨g,cap',cur,hv,_⟩
  (·exact⟨none,0,by rw[he,hz]⟩);exact⟨_,_,hv⟩
 have rV:=aa hrow;have HS:=aa hS;have Hl:=aa hl;have HB:=aa hb;have HQ:=aa (Nz w A ss.length c ss w w2 rfl hrow hb (by have:=HL.o;omega));clear hrow hS hl hb;go_wp2_with (go_at_call 59;refine HQ.o.mono ?_;rintro e w3 ⟨rfl,ys,hp,hpw,rZ,hb3⟩);refine HP.o (.returned (bW A ss c)) _ ⟨A,c,ys,by rw[hp.length_eq],?_,fun z hz=>?_,fun z hz=>HS.o.2.1 z (hp.mem_iff.1 hz),rZ,hb3⟩
 ·have hnd:ys.Nodup:=hp.nodup_iff.2 HS.o.1;refine(List.pairwise_and_iff.2 ⟨hpw,hnd⟩).imp fun {a b} hab=>?_;by_cases h:Ln.Dx a b
  (·exact h);exact absurd (OZ h hab.1) hab.2
 rw[hp.mem_iff,HS.o.2.2 z hz,(H3.o z hz).1];simp[Hl.o]
end
section
open Go Go.RowKit Bg Go.Proofs Sh Kb Ln Ck
section
section
variable {s:cK} (hr:fV s=true) (hz:gj s)
include hr hz
theorem BK {f:cL} (hf:f∈s.funcs):fB f.body=true:=((wS hr hz).one f hf).1.body
theorem H7:∀ x∈univ s,gX x:=fun x hx=>by
 unfold univ at hx;rcases aar.1 hx with hx|hx
 (·obtain⟨c,hc,rfl⟩:=List.mem_map.1 hx;exact⟨by show(Lit.int .i64 4).wf=true;decide,(hz.cells c hc).name⟩);rcases aar.1 hx with hx|hx
 (·obtain⟨c,hc,h⟩:=List.mem_flatMap.1 hx;exact Ka _ _ aac (gN (o7 hr hc)).1 x h);obtain⟨f,hf,h⟩:=List.mem_flatMap.1 hx;exact Ka _ _ aac (gN (BK hr hz hf)).1 x h
omit hr hz in theorem Q1 {x:cw} (h:fB x=true):cE x≤200:=by
 unfold fB at h;simp at h;omega
omit hr hz in
theorem ox {jt:ByteArray→Bool} {par:Bool} {x:cw} (h:fB x=true):(fL jt par x).length≤200:=aaC (Fy _ x aac) (Q1 h)
theorem tI:(univ s).length≤100000:=by
 have hl:=nD hr;have h1:=yY (f:=fun c:fD=>fL (iV s) false c.kY) (n:=200) (l:=s.cells) fun c hc=>ox (o7 hr hc);have h2:=yY (f:=fun f:cL=>fL (fun _=>false) true f.body) (n:=200) (l:=s.funcs) fun f hf=>ox (BK hr hz hf);unfold univ;rw[aao,aao,aap];have h3:=aaF 200 hl.1;have h4:=aaF 200 hl.2.2.2;omega
theorem O0 (x:eN):(Eh s x).length≤1000000:=by
 unfold Eh;split
 ·cases hf:s.cells.find? fun c=>c.name==x.2 with
  |none=>simp
  |some c=>have:=ox (jt:=iV s) (par:=false) (o7 hr (List.mem_of_find?_eq_some hf));show(fL _ _ _).length≤_;omega
 split
 ·cases hf:s.funcs.find? fun c=>c.name==x.2 with
  |none=>simp
  |some c=>have:=ox (jt:=fun _=>false) (par:=true) (BK hr hz (List.mem_of_find?_eq_some hf));show(fL _ _ _).length≤_;omega
 simp
theorem on_ok {c:fD} (hc:c∈s.cells):∀ x∈vh s c.name,gX x:=fun x hx=>H7 hr hz x (((jN (gA hc) fG).sub (gA hc) fG).1 x hx)
theorem KM {c:fD} (hc:c∈s.cells) {l:List eN} (h1:l.Pairwise Dx) (h2:∀ z,gX z→(z∈l↔(lW (vh s c.name) z).isSome=true)) (h3:∀ z∈l,gX z):Hf s c.name l:=by
 have hs:∀ z,(lW (vh s c.name) z).isSome=true↔z∈vh s c.name:=fun z=>by
  unfold lW;by_cases h:z∈vh s c.name<;>simp[h]
 refine⟨h1,fun x=>⟨fun hx=>(hs x).1 ((h2 x (h3 x hx)).1 hx),fun hx=>(h2 x (on_ok hr hz hc x hx)).2 ((hs x).2 hx)⟩⟩
end
end
end
section
open Go Go.RowKit Bg Go.Proofs Sh Kb Ck Ln
def Vj (s:cK) (w:World) (e:Ending) (w':World):Prop:=(ia s=0→∃ gm,e= .returned (.tuple #[.map (some gm),.bool true])∧Dw w' gm (Eh s))∧(¬ia s=0→e= .returned (.tuple #[.map none,.bool false]))∧Below w w w'
theorem zv {B g:Nat} {w w' w6 we:World} (h0:B≤w.heap.size) (h:Below B w we) (hb:Below we we w6) (hg:w6.grownBy w' (some g)) (hB:B≤g):Below B w w':=
 (h.trans (hb.mono (aaC h0 h.size))).grown hg (aaC h0 (aaC h.size hb.size)) fun j e=>by injection e with e;omega
theorem Vk {l:List fD} {k:Nat} (hk:k<l.length):(l[k].name :: ((l.take k).map (·.name)).reverse)=((l.take (k+1)).map (·.name)).reverse:=by
 rw[aaz hk,List.map_append,List.reverse_append];rfl
theorem Vl (s:cK) (nm:ByteArray):iV s nm=(((s.cells.take s.cells.length).map (·.name)).reverse).contains nm:=by
 unfold iV;rw[List.take_length,Bool.eq_iff_iff];simp
theorem FQ (a:j6) (s:cK) (w:World) (hI:eo w Any a s) (hZ:gj s):Calls prog 26 #[.agg (dU a s).toArray] w (Vj s w):=by
 generalize hP:Vj s w=P;have HP:=aa (show ∀ e w',Vj s w e w'→P e w' from fun e w' h=>hP▸h);clear hP;have HI:=aa hI;have HZ:=aa hZ;clear hI hZ;obtain⟨A1,q1,A2,q2,A3,q3,A4,q4,A5,q5,A6,q6,A7,q7,A8,q8⟩:=a;have HCk0:=aa (fun W (h:Below w w W)=>vD _ s W (HI.o.bZ h) HZ.o);simp only[dU]at HCk0 ⊢;go_enter func26,ntmps26;go_upto_region 1 with fail;obtain⟨w1,p,hw,hp,K0,fh,HB,iQ,uu⟩:=Ep w (g_ s A1 A2 A3 A4 A5 A6 A7 A8 q1 q2 q3 q4 q5 q6 q7 q8) 31;rw[hw,hp];clear hw hp;have xQ:=aa (HCk0.o w1 HB.o);clear HCk0;have x0:=K0.o.cell;by_cases hk:ia s=0;(case neg=>have HE:=aa hk;have zk:(ia s != 0)=true:=(by simpa using hk);clear hk;generalize hcs:ia s=ck at xQ zk;clear hcs;go_wp2_with (go_at_call 14;refine xQ.o.mono ?_;rintro e w2 ⟨nm,rfl,hb2⟩;have dG:=aa (HB.o.trans (hb2.mono HB.o.size));clear hb2);exact HP.o (.returned (.tuple #[.map none,.bool false])) _ ⟨fun h=>absurd h HE.o,fun _=>rfl,dG.o⟩);have HK:=aa hk;obtain⟨hr,C6,_⟩:=xz hk;rw[hk]at xQ;have hlen:=nD hr;have HCd:=aa (fun c (hc:c∈s.cells)=>o7 hr hc);have uo:=aa (fun f (hf:f∈s.funcs)=>BK hr HZ.o hf);have HAp:=aa (Am hr);clear hr hk C6;have hmm:=@run_makeMap prog;go_upto_region 5 with(go_at_call 14;refine xQ.o.mono ?_;rintro e w2 ⟨nm,rfl,hb2⟩;have dG:=aa (show Below (p+1) w1 w2 from hb2.mono fh.o);clear hb2);obtain⟨m1,Cr⟩:∃ m,m=w2.heap.size:=⟨_,rfl⟩;have HLm:=aa (show p+1≤m1 by have:=dG.o.size;have:=fh.o;omega);have HSt0:=aa (show gQ (w2.alloc (.map #[] 0)) m1 ((s.cells.take 0).map (·.name)).reverse by rw[Cr];exact gQ.made w2);have eF:=aa (dG.o.alloc (aaC fh.o dG.o.size) (.map #[] 0));rw[← Cr];clear Cr xQ;generalize w2.alloc (.map #[] 0)=w3 at HSt0 eF ⊢;have x0:=(K0.o.bZ eF.o af).cell;go_wp2;go_loopw [25] (fun v wr=>∃ k:Nat,k≤s.cells.length∧v=bU (k:Int)∧Hid (gQ wr m1 ((s.cells.take k).map (·.name)).reverse)∧Hid (Below (p+1) w1 wr)) (fun v _=>s.cells.length - (intOf v).toNat);(case atStart=>exact⟨0,aaG _,rfl,HSt0,eF⟩);clear HSt0 eF x0;obtain⟨k,hk,rfl,yO,dH⟩:=hrel;have cG:=aa (iQ.o _ dH.o);have x0:=(K0.o.bZ dH.o af).cell;by_cases hlt:k<s.cells.length;(case pos=>obtain⟨bl,o,eR,yn,eT,eU,B9,ny,c9,hA,hbl,g0,g1,g2,g3,g4,g5,g6,hie⟩:=ug (HI.o.cells.bZ cG.o) hlt;subst hA;have Nw:=aa (HZ.o.cells _ (aan hlt)).name;have X5:=aa (Vk hlt);generalize s.cells[k]=c at hie Nw X5 g0 g1;obtain⟨cn,cu,cd⟩:=c;dsimp only at Nw X5 g0 g1;clear hie;(have hlm:((s.cells.take k).map (·.name)).reverse.length<maxLen:=by rw[List.length_reverse,aap,List.length_take];unfold maxLen;omega);go_wp2_with (refine iW _ rfl _ _ _ _ rfl underlying128 m1 _ rfl (yO.o.alloc _) hlm cn rfl rfl Nw.o ?_;intro w5 HS5 gp);have HS6:=aa (show gQ w5 m1 ((s.cells.take (k+1)).map (·.name)).reverse by rw[← X5.o];exact HS5);have eA:=aa (show Below (p+1) w1 w5 from zv fh.o dH.o (cS _) gp HLm.o);go_roundw;exact⟨k+1,by omega,rfl,HS6,eA⟩;simp[intOf];omega);case neg=>
  obtain rfl:k=s.cells.length:=by omega
  have hCe:=fun nm=>Vl s nm
  have HCe:=aa hCe
  generalize ((s.cells.take s.cells.length).map (·.name)).reverse=Ls at yO HCe
  clear hCe hk hlt
  rename World=>wo
  go_upto_region 11 with fail
  obtain⟨gw,F0⟩:∃ m,m=wo.heap.size:=⟨_,rfl⟩
  have Ll:=aa (show p+1≤gw∧m1<gw by have:=dH.o.size;have:=fh.o;have:=yO.o.lt;omega)
  have Q2:=aa (show Hg (wo.alloc (.map #[] 0)) gw 0 (kE s 0 0) by rw[F0];exact Hg.made wo (Na s))
  have HSt4:=aa (yO.o.alloc (.map #[] 0))
  have gC:=aa (dH.o.alloc (aaC fh.o dH.o.size) (.map #[] 0))
  rw[← F0]
  clear F0 yO dH cG
  generalize wo.alloc (.map #[] 0)=w4 at Q2 HSt4 gC ⊢
  have x0:=(K0.o.bZ gC.o af).cell
  go_wp2_with fail
  go_loopw [37] (fun v wr=>∃ k:Nat,k≤s.cells.length∧v=bU (k:Int)∧Hid (Hg wr gw k (kE s k 0))∧Hid (gQ wr m1 Ls)∧Hid (Below (p+1) w1 wr)) (fun v _=>s.cells.length - (intOf v).toNat)
  case atStart=>exact⟨0,aaG _,rfl,Q2,HSt4,gC⟩
  case round=>
   clear Q2 HSt4 gC x0;obtain⟨k,hk,rfl,vr,yO,dH⟩:=hrel;have cG:=aa (iQ.o _ dH.o);have x0:=(K0.o.bZ dH.o af).cell;by_cases hlt:k<s.cells.length;case pos=>
    obtain⟨bl,o,eR,yn,eT,eU,B9,ny,c9,hA,hbl,g0,g1,g2,g3,g4,g5,g6,hie⟩:=ug (HI.o.cells.bZ cG.o) hlt
    subst hA
    have Nw:=aa (HZ.o.cells _ (aan hlt)).name
    have Hw:=aa (HCd.o _ (aan hlt))
    have xP:=aa (show ∀ z,kE s (k+1) 0 z=if z=(4,s.cells[k].name)then fL (iV s) false s.cells[k].kY else kE s k 0 z from fun z=>by rw[Nc hlt,Dc HAp.o (aan hlt)])
    generalize s.cells[k]=c at hie Nw xP Hw g0 g1
    obtain⟨cn,cu,cd⟩:=c
    dsimp only at Nw xP g0 g1 hie Hw
    have NB:=aa (fun W (h:Below wr wr W)=>DA false (iV s) (.map (some m1)) 1000000 aac cd (gN Hw.o).2 (gN Hw.o).1 W _ (fun _=>⟨m1,Ls,rfl,yO.o.bZ h yO.o.lt,HCe.o⟩) (di.keep hie (cB.cA h)))
    have Xr:=aa (ox (jt:=iV s) (par:=false) Hw.o)
    clear hie Hw
    generalize fL (iV s) false cd=row at NB xP Xr
    have hkc:gX (4,cn):=⟨(by decide:(Lit.int .i64 4).wf=true),Nw.o⟩
    go_upto_region 14 with fail
    obtain⟨we,xN⟩:∃ we,we=wr.alloc (.cells #[bV cn,bV cu,.int .i64 eR,.int .i64 yn,bV eT,bV eU,bW B9 ny c9] 49):=⟨_,rfl⟩
    have KB:=aa (show cN we wr 49 [bV cn,bV cu,bU eR,bU yn,bV eT,bV eU,bW B9 ny c9] by rw[xN];exact heap_alloc_new wr _)
    have o6:=aa (show Below wr wr we by rw[xN];exact cS _)
    rw[← xN]
    clear xN g0 g1 g2 g3 g4 g5 g6 x0
    have HGr1:=vr
    have HGb:=aa vr.o.lt
    replace vr:=aa (vr.o.bZ o6.o)
    have NC:=aa (fun W (h:Below we we W)=>NB.o W (o6.o.trans (h.mono o6.o.size)))
    have pg:=aa (show Below (p+1) w1 we from dH.o.trans (o6.o.mono (aaC fh.o dH.o.size)))
    have HSe:=aa (yO.o.bZ o6.o yO.o.lt)
    obtain⟨gb,hgb⟩:∃ g,g=wr.heap.size:=⟨_,rfl⟩
    rw[← hgb]at KB ⊢
    have jy:=aa (show Below we we we.drew from⟨rfl,rfl,rfl,aaB _,fun _ _=>rfl⟩)
    have Ue:=aa (show gb<we.heap.size from KB.o.lt)
    have HGe:=aa (show gw<we.heap.size from vr.o.lt)
    clear HGr1 NB hgb
    obtain⟨nn,hn⟩:∃ n,n=k:=⟨_,rfl⟩
    have HNn:=aa hn
    rw[← hn]at vr xP
    have hnn:nn<maxLen:=by rw[hn];unfold maxLen;omega
    clear hn
    refine cV (S:=fun w'=>∀ o',w'.cell? (bY gb o')=([bV cn,bV cu,bU eR,bU yn,bV eT,bV eU,bW B9 ny c9]:List Value)[o']?) [0,1,4,6,2,5] [(0,false),(1,false),(4,false),(6,false),(2,false),(5,false),(3,true),(7,true),(8,true)] ah ah aq rfl ah (fun o'=>KB.o.cell o') ?_
    iterate 6 refine hwr ?_
    refine hwt fun K hK=>?_
    go_simp
    refine(ow 4 cn _).mono ?_
    rintro e w5 ⟨rfl,rfl⟩
    refine hK.o _ _ (fun o'=>((jy.o.alloc jy.o.size _).cell (p:=bY gb o') Ue.o).trans (KB.o.cell o')) ?_
    clear hK K
    refine hwt fun K hK=>?_
    go_simp
    refine(NC.o _ (jy.o.alloc jy.o.size _)).mono ?_
    rintro e w6 ⟨NA,nc,rfl,rZ,eO⟩
    have lI:=aa rZ
    have eA:=aa (show Below we we w6 from(jy.o.alloc jy.o.size (.cells #[bU 4,bV cn] 51)).trans (eO.mono (by rw[aaI];show we.heap.size≤we.heap.size+1;omega)))
    obtain⟨G,hGM,hGz⟩:=vr.o.bZ eA.o
    have HGz:=aa hGz
    clear rZ eO hGz
    refine hK.o _ _ (fun o'=>(eA.o.cell (p:=bY gb o') Ue.o).trans (KB.o.cell o')) ?_
    clear hK K
    refine xN fun K hK=>?_
    refine Fz rfl _ _ _ 71 rfl _ underlying71 gw nn G rfl hGM hnn (4,cn) (bW NA row nc) rfl aG hkc ?_
    intro w7 hM7 uA
    refine hK.o _ _ ?_
    clear hK K
    refine eD ?_
    try go_frame
    have WL:=aa (show Hg w7 gw (nn+1) (kE s (nn+1) 0)from Hg.put HGz.o hM7 uA (lI.o.mono fun b _ h=>by rw[aaI]at h;have h:we.heap.size+1≤b:=h;have:=HGe.o;omega) xP.o)
    have HS7:=aa (show gQ w7 m1 Ls from(HSe.o.bZ eA.o HSe.o.lt).of_block (uA.block m1 (aaD HSe.o.lt eA.o.size) (fun e=>by injection e with e;have:=Ll.o.2;omega)))
    have ko:=aa (show Below (p+1) w1 w7 from zv fh.o pg.o eA.o uA Ll.o.1)
    rw[HNn.o]at WL
    clear hM7 uA HGz lI hGM HNn hnn
    go_wp2_with fail
    go_roundw
    case rel=>exact⟨k+1,by omega,rfl,WL,HS7,ko⟩
    case measure=>simp[intOf];omega
   case neg=>
    obtain rfl:k=s.cells.length:=by omega
    clear hk hlt
    have Q2:=vr
    have gC:=dH
    clear vr yO dH cG
    rename World=>wi
    go_wp2_with fail
    go_loopw [53] (fun v wr=>∃ k:Nat,k≤s.funcs.length∧v=bU (k:Int)∧Hid (Hg wr gw (s.cells.length+k) (kE s s.cells.length k))∧Hid (Below (p+1) w1 wr)) (fun v _=>s.funcs.length - (intOf v).toNat)
    case atStart=>exact⟨0,aaG _,rfl,Q2,gC⟩
    case round=>
     clear Q2 gC x0;obtain⟨k,hk,rfl,vr,dH⟩:=hrel;have cG:=aa (iQ.o _ dH.o);have x0:=(K0.o.bZ dH.o af).cell;by_cases hlt:k<s.funcs.length;case pos=>
      obtain⟨bl,o,cs,hA,_,hbl,ey,cM⟩:=(HI.o.funcs.bZ cG.o).get hlt
      subst hA
      obtain⟨PA,pd,es,G5,hsp,hie⟩:=ey
      obtain⟨eR,yn,eT,eU,B9,c9,yr,oh,hes,_⟩:=cH.parts hie
      subst hes
      subst G5
      clear oh hsp
      generalize yr.length=ny at hie cM
      have Nw:=aa (HZ.o.funcs _ (aan hlt)).name
      have Hw:=aa (uo.o _ (aan hlt))
      have xP:=aa (show ∀ z,kE s s.cells.length (k+1) z=if z=(3,s.funcs[k].name)then fL (fun _=>false) true s.funcs[k].body else kE s s.cells.length k z from fun z=>by rw[Nd hlt,JE HAp.o (aan hlt)])
      generalize s.funcs[k]=c at hie Nw xP Hw cM
      obtain⟨cn,cps,cd⟩:=c
      dsimp only at Nw xP cM hie Hw
      generalize cps.length=np at cM
      have g0:b_ wr bl (o+k*7) (bV cn):=cM 0 _ rfl
      have g1:b_ wr bl (o+k*7+1) (bW PA np pd):=cM 1 _ rfl
      have g2:b_ wr bl (o+k*7+2) (bU eR):=cM 2 _ rfl
      have g3:b_ wr bl (o+k*7+3) (bU yn):=cM 3 _ rfl
      have g4:b_ wr bl (o+k*7+4) (bV eT):=cM 4 _ rfl
      have g5:b_ wr bl (o+k*7+5) (bV eU):=cM 5 _ rfl
      have g6:b_ wr bl (o+k*7+6) (bW B9 ny c9):=cM 6 _ rfl
      clear cM
      have NB:=aa (fun W (h:Below wr wr W)=>DA true (fun _=>false) (.map none) 1000000 aac cd (gN Hw.o).2 (gN Hw.o).1 W _ (fun h=>by cases h) (di.keep hie (cB.cA h)))
      have Xr:=aa (ox (jt:=fun _=>false) (par:=true) Hw.o)
      clear hie Hw
      generalize fL (fun _=>false) true cd=row at NB xP Xr
      have hkc:gX (3,cn):=⟨(by decide:(Lit.int .i64 3).wf=true),Nw.o⟩
      go_upto_region 19 with fail
      obtain⟨we,xN⟩:∃ we,we=wr.alloc (.cells #[bV cn,bW PA np pd,.int .i64 eR,.int .i64 yn,bV eT,bV eU,bW B9 ny c9] 69):=⟨_,rfl⟩
      have KB:=aa (show cN we wr 69 [bV cn,bW PA np pd,bU eR,bU yn,bV eT,bV eU,bW B9 ny c9] by rw[xN];exact heap_alloc_new wr _)
      have o6:=aa (show Below wr wr we by rw[xN];exact cS _)
      rw[← xN]
      clear xN g0 g1 g2 g3 g4 g5 g6 x0
      replace vr:=aa (vr.o.bZ o6.o)
      have NC:=aa (fun W (h:Below we we W)=>NB.o W (o6.o.trans (h.mono o6.o.size)))
      have pg:=aa (show Below (p+1) w1 we from dH.o.trans (o6.o.mono (aaC fh.o dH.o.size)))
      obtain⟨gb,hgb⟩:∃ g,g=wr.heap.size:=⟨_,rfl⟩
      rw[← hgb]at KB ⊢
      have jy:=aa (show Below we we we.drew from⟨rfl,rfl,rfl,aaB _,fun _ _=>rfl⟩)
      have Ue:=aa (show gb<we.heap.size from KB.o.lt)
      have HGe:=aa (show gw<we.heap.size from vr.o.lt)
      clear NB hgb
      obtain⟨nn,hn⟩:∃ n,n=s.cells.length+k:=⟨_,rfl⟩
      have HNn:=aa hn
      rw[← hn]at vr
      have hnn:nn<maxLen:=by rw[hn];unfold maxLen;omega
      clear hn
      refine cV (S:=fun w'=>∀ o',w'.cell? (bY gb o')=([bV cn,bW PA np pd,bU eR,bU yn,bV eT,bV eU,bW B9 ny c9]:List Value)[o']?) [0,1,4,2,5] [(0,false),(1,false),(4,false),(2,false),(5,false),(3,true),(6,true),(7,true)] ah ah aq rfl ah (fun o'=>KB.o.cell o') ?_
      iterate 5 refine hwr ?_
      refine hwt fun K hK=>?_
      go_simp
      refine(ow 3 cn _).mono ?_
      rintro e w5 ⟨rfl,rfl⟩
      refine hK.o _ _ (fun o'=>((jy.o.alloc jy.o.size _).cell (p:=bY gb o') Ue.o).trans (KB.o.cell o')) ?_
      clear hK K
      refine hwt fun K hK=>?_
      go_simp
      refine(NC.o _ (jy.o.alloc jy.o.size _)).mono ?_
      rintro e w6 ⟨NA,nc,rfl,rZ,eO⟩
      have lI:=aa rZ
      have eA:=aa (show Below we we w6 from(jy.o.alloc jy.o.size (.cells #[bU 3,bV cn] 51)).trans (eO.mono (by rw[aaI];show we.heap.size≤we.heap.size+1;omega)))
      obtain⟨G,hGM,hGz⟩:=vr.o.bZ eA.o
      have HGz:=aa hGz
      clear rZ eO hGz
      refine hK.o _ _ (fun o'=>(eA.o.cell (p:=bY gb o') Ue.o).trans (KB.o.cell o')) ?_
      clear hK K
      refine xN fun K hK=>?_
      refine Fz rfl _ _ _ 71 rfl _ underlying71 gw nn G rfl hGM hnn (3,cn) (bW NA row nc) rfl aG hkc ?_
      intro w7 hM7 uA
      refine hK.o _ _ ?_
      clear hK K
      refine eD ?_
      try go_frame
      have WL:=aa (show Hg w7 gw (nn+1) (kE s s.cells.length (k+1))from Hg.put HGz.o hM7 uA (lI.o.mono fun b _ h=>by rw[aaI]at h;have h:we.heap.size+1≤b:=h;have:=HGe.o;omega) xP.o)
      have ko:=aa (show Below (p+1) w1 w7 from zv fh.o pg.o eA.o uA Ll.o.1)
      rw[HNn.o]at WL
      clear hM7 uA HGz lI hGM HNn hnn
      go_wp2_with fail
      go_roundw
      case rel=>exact⟨k+1,by omega,rfl,WL,ko⟩
      case measure=>simp[intOf];omega
     (obtain rfl:k=s.funcs.length:=by omega);have HGa:=aa (show Dw wr gw (Eh s) by have h:=vr.o;rw[show kE s s.cells.length s.funcs.length=Eh s from funext (Nb s)]at h;exact h.at_);clear vr;go_wp2;exact HP.o (.returned (.tuple #[.map (some gw),.bool true])) _ ⟨fun _=>⟨gw,rfl,HGa.o⟩,fun h=>absurd HK.o h,cG.o⟩
def OnP (s:cK) (n:Int) (w:World) (e:Ending) (w':World):Prop:=∃ A c l,e= .returned (.slice A l.length c)∧Sq dI w' Any A l∧Below w w w'∧((¬(ia s=0∧0≤n∧n<s.cells.length))∧l=[]∨ia s=0∧∃ (i:Nat) (hi:i<s.cells.length),n=i∧Hf s s.cells[i].name l)
theorem BL (a:j6) (s:cK) (n:Int) (w:World) (hI:eo w Any a s) (hZ:gj s):Calls prog 9 #[.agg (dU a s).toArray,bU n] w (OnP s n w):=by
 generalize hP:OnP s n w=P;have HP:=aa (show ∀ e w',OnP s n w e w'→P e w' from fun e w' h=>hP▸h);clear hP;have HI:=aa hI;have HZ:=aa hZ;clear hI hZ;obtain⟨A1,q1,A2,q2,A3,q3,A4,q4,A5,q5,A6,q6,A7,q7,A8,q8⟩:=a;have ND:=aa (fun W (h:Below w w W)=>FQ _ s W (HI.o.bZ h) HZ.o);simp only[dU]at ND ⊢;go_enter func9,ntmps9;go_upto_region 1 with fail;obtain⟨w1,p,hw,hp,K0,fh,HB,iQ,uu⟩:=Ep w (g_ s A1 A2 A3 A4 A5 A6 A7 A8 q1 q2 q3 q4 q5 q6 q7 q8) 31;rw[hw,hp];clear hw hp;have qK:=aa (ND.o w1 HB.o);clear ND;have x0:=K0.o.cell;by_cases hk:ia s=0;(case neg=>have HE:=aa hk;clear hk;go_wp2_with (go_at_call 26;refine qK.o.mono ?_;rintro e w2 ⟨hy,hn,hb2⟩;obtain rfl:=hn HE.o;have dG:=aa (HB.o.trans (hb2.mono HB.o.size));clear hb2 hy hn);exact HP.o (.returned cD) _ ⟨none,0,[],rfl,Sq.nil,dG.o,.inl ⟨fun h=>HE.o h.1,rfl⟩⟩);have HK:=aa hk;obtain⟨hr,C6,_⟩:=xz hk;have hlen:=nD hr;have HUk:=aa (H7 hr HZ.o);have HUl:=aa (tI hr HZ.o);have rV:=aa (O0 hr HZ.o);have YZ:=aa (fun c (hc:c∈s.cells) l h1 h2 h3=>KM (l:=l) hr HZ.o hc h1 h2 h3);have HOn:=aa (fun c (hc:c∈s.cells)=>show(vh s c.name).length≤100000 from aaC (ot (JG hc) (fun x hx=>(((jN (gA hc) fG).sub (gA hc) fG).1 x hx))) (tI hr HZ.o));clear hr C6 hk;go_upto_region 2 with(go_at_call 26;refine qK.o.mono ?_;rintro e w2 ⟨hy,hn,hb2⟩;obtain⟨gm,rfl,hG⟩:=hy HK.o;have HG:=aa hG;have dG:=aa (show Below (p+1) w1 w2 from hb2.mono fh.o);clear hb2 hy hn hG);have x0:=(K0.o.bZ dG.o af).cell;by_cases h0:n<0;(case pos=>have z0:decide (n<0)=true:=aS;go_wp2;exact HP.o (.returned cD) _ ⟨none,0,[],rfl,Sq.nil,iQ.o _ dG.o,.inl ⟨fun h=>by omega,rfl⟩⟩);have z0:decide (n<0)=false:=aS;obtain⟨i,rfl⟩:∃ i:Nat,n=i:=⟨n.toNat,by omega⟩;by_cases h1:i<s.cells.length;(case neg=>have z1:decide ((i:Int)≥(s.cells.length:Int))=true:=au;clear h0;go_wp2;exact HP.o (.returned cD) _ ⟨none,0,[],rfl,Sq.nil,iQ.o _ dG.o,.inl ⟨fun h=>by omega,rfl⟩⟩);have z1:decide ((i:Int)≥(s.cells.length:Int))=false:=au;have cG:=aa (iQ.o _ dG.o);obtain⟨bl,o,eR,yn,eT,eU,B9,ny,c9,hA,hbl,g0,g1,g2,g3,g4,g5,g6,_⟩:=ug (HI.o.cells.bZ cG.o) h1;subst hA;have hmem:=aan h1;have uf:=aa (fun W (h:Below w2 w2 W)=>Fw gm (Eh s) (univ s) fG HUk.o HUl.o rV.o 4 s.cells[i].name (gA hmem) W (HG.o.bZ h));have HLs:=aa (YZ.o _ hmem);have vL:=aa (HOn.o _ hmem);have HX:=aa (show ∀ l,Hf s s.cells[i].name l→(ia s=0∧∃ (j:Nat) (hj:j<s.cells.length),(i:Int)=j∧Hf s s.cells[j].name l)from fun l h=>⟨HK.o,i,h1,rfl,h⟩);change Hid (∀ W,Below w2 w2 W→Calls _ _ _ W (J8 (vh s s.cells[i].name) W))at uf;clear hmem;generalize vh s s.cells[i].name=L at uf HLs vL;generalize (fun l=>Hf s s.cells[i].name l)=OL at HLs HX;generalize s.cells[i].name=cn at g0 uf HLs HX;clear h0;have WK:=fh.o;go_wp2_with (first
  |(go_at_call 30;refine(ow 4 cn _).mono ?_;rintro e w3 ⟨rfl,rfl⟩)
  |(go_at_call 29;refine(uf.o _ (cS _)).mono ?_;rintro e w4 ⟨b,rfl,hM,hb,KN⟩;have HM:=aa hM;have gC:=aa (show Below w2 w2 w4 from((aaf w2 w2).alloc aac (.cells #[.int .i64 4,.string cn] 51)).trans (KN.mono aJ));clear hM hb KN)
  |(go_at_call 28;refine(Q0 (some b) w4).mono ?_;rintro e w5 ⟨rfl,rfl⟩)
  |(go_at_call 27;refine(KL w4 b L.length (by have:=vL.o;omega) (lW L) _ aJ (by rw[(show cN (w4.alloc (.cells #[.map (some b)] 78)) w4 78 [.map (some b)]from heap_alloc_new w4 _).cell];rfl) (HM.o.alloc _)).mono ?_;rintro e w6 ⟨A,c,l,rfl,h1,h2,h3,rZ,eO⟩))
 exact HP.o (.returned (bW A l c)) _ ⟨A,c,l,rfl,rZ,cG.o.trans ((gC.o.trans ((cS _ |>.trans (eO.mono aJ)).mono gC.o.size)).mono cG.o.size),.inr (HX.o l (HLs.o l h1 h2 h3))⟩
def OfP (s:cK) (x:eN) (w:World) (e:Ending) (w':World):Prop:=∃ A c l,e= .returned (.slice A l.length c)∧Sq jV w' Any A l∧Below w w w'∧(ia s=0→l=UE s x)∧(¬ia s=0→l=[])
def RA (s:cK) (x:eN) (k:Nat):List Nat:=(aav k).filter fun i=>match s.cells[i]? with
 |some c=>decide (x∈vh s c.name)
 |none=>false
theorem Vm {s:cK} {x:eN} {k:Nat} (hk:k<s.cells.length) {r:Bool} (hr:r=true↔x∈vh s s.cells[k].name):RA s x (k+1)=RA s x k++(if r then[k]else[]):=by
 unfold RA;rw[List.range_succ,List.filter_append];congr 1;have e:(match s.cells[k]? with
  |some c=>decide (x∈vh s c.name)
  |none=>false)=r:=by
  rw[List.getElem?_eq_getElem hk]
  dsimp only
  by_cases h:x∈vh s s.cells[k].name
  ·
   rw[decide_eq_true h,hr.2 h]
  ·
   (have:r=false:=by cases r;rfl;exact absurd (hr.1 rfl) h);rw[decide_eq_false h,this]
 rw[List.filter_cons,List.filter_nil];simp only[e]
theorem X6 (s:cK) (x:eN) (k:Nat):(RA s x k).length≤k:=by
 unfold RA
 have:=List.length_filter_le (fun i=>match s.cells[i]? with
  |some c=>decide (x∈vh s c.name)
  |none=>false) (aav k)
 rwa [List.length_range]at this
theorem xL (a:j6) (s:cK) (n:Int) (nm:ByteArray) (hz:gX (n,nm)) (w:World) (hI:eo w Any a s) (hZ:gj s):Calls prog 12 #[.agg (dU a s).toArray,bU n,bV nm] w (OfP s (n,nm) w):=by
 generalize hP:OfP s (n,nm) w=P;have HP:=aa (show ∀ e w',OfP s (n,nm) w e w'→P e w' from fun e w' h=>hP▸h);clear hP;have HI:=aa hI;have HZ:=aa hZ;clear hI hZ;obtain⟨A1,q1,A2,q2,A3,q3,A4,q4,A5,q5,A6,q6,A7,q7,A8,q8⟩:=a;have ND:=aa (fun W (h:Below w w W)=>FQ _ s W (HI.o.bZ h) HZ.o);simp only[dU]at ND ⊢;go_enter func12,ntmps12;go_upto_region 1 with fail;obtain⟨w1,p,hw,hp,K0,fh,HB,iQ,uu⟩:=Ep w (g_ s A1 A2 A3 A4 A5 A6 A7 A8 q1 q2 q3 q4 q5 q6 q7 q8) 31;rw[hw,hp];clear hw hp;have qK:=aa (ND.o w1 HB.o);clear ND;have x0:=K0.o.cell;by_cases hk:ia s=0;(case neg=>have HE:=aa hk;clear hk;go_wp2_with (go_at_call 26;refine qK.o.mono ?_;rintro e w2 ⟨hy,hn,hb2⟩;obtain rfl:=hn HE.o;have dG:=aa (HB.o.trans (hb2.mono HB.o.size));clear hb2 hy hn);exact HP.o (.returned cD) _ ⟨none,0,[],rfl,Sq.nil,dG.o,fun h=>absurd h HE.o,fun _=>rfl⟩);have HK:=aa hk;obtain⟨hr,C6,_⟩:=xz hk;have hlen:=nD hr;have HUk:=aa (H7 hr HZ.o);have HUl:=aa (tI hr HZ.o);have rV:=aa (O0 hr HZ.o);have YZ:=aa (fun c (hc:c∈s.cells) l h1 h2 h3=>KM (l:=l) hr HZ.o hc h1 h2 h3);have HOn:=aa (fun c (hc:c∈s.cells)=>show(vh s c.name).length≤100000 from aaC (ot (JG hc) (fun x hx=>(((jN (gA hc) fG).sub (gA hc) fG).1 x hx))) (tI hr HZ.o));clear hr C6 hk;go_upto_region 5 with(go_at_call 26;refine qK.o.mono ?_;rintro e w2 ⟨hy,hn,hb2⟩;obtain⟨gm,rfl,hG⟩:=hy HK.o;have HG:=aa hG;have dG:=aa (show Below (p+1) w1 w2 from hb2.mono fh.o);clear hb2 hy hn hG);have x0:=(K0.o.bZ dG.o af).cell;have HQ0:=aa (show dO jV 3 w2.heap.size w2 (fun _=>False) cD (RA s (n,nm) 0)from dO.ql);have YY:=aa (aaf w2 w2);have HLz:=aa (show p+1≤w2.heap.size from aaC fh.o dG.o.size);go_wp2;go_loopw [9,22] (fun v9 v wr=>∃ (k:Nat) (V:Value),k≤s.cells.length∧v9=V∧v=bU (k:Int)∧Hid (dO jV 3 w2.heap.size wr (fun _=>False) V (RA s (n,nm) k))∧Hid (Below w2 w2 wr)) (fun _ v _=>s.cells.length - (intOf v).toNat);(case atStart=>exact⟨0,_,aaG _,rfl,rfl,HQ0,YY⟩);clear HQ0 YY x0;obtain⟨k,V,hk,rfl,rfl,HQ,dH⟩:=hrel;have cG:=aa (iQ.o _ (dG.o.trans (dH.o.mono HLz.o)));have x0:=(K0.o.bZ (dG.o.trans (dH.o.mono HLz.o)) af).cell;by_cases hlt:k<s.cells.length;case pos=>
  obtain⟨bl,o,eR,yn,eT,eU,B9,ny,c9,hA,hbl,g0,g1,g2,g3,g4,g5,g6,_⟩:=ug (HI.o.cells.bZ cG.o) hlt
  subst hA
  have hmem:=aan hlt
  have uf:=aa (fun W (h:Below w2 w2 W)=>Fw gm (Eh s) (univ s) fG HUk.o HUl.o rV.o 4 s.cells[k].name (gA hmem) W (HG.o.bZ h))
  change Hid (∀ W,Below w2 w2 W→Calls _ _ _ W (J8 (vh s s.cells[k].name) W))at uf
  have X5:=aa (fun r (h:r=true↔(n,nm)∈vh s s.cells[k].name)=>Vm (x:=(n,nm)) hlt h)
  obtain⟨r,hrr⟩:∃ r:Bool,r=true↔(n,nm)∈vh s s.cells[k].name:=⟨decide ((n,nm)∈vh s s.cells[k].name),by simp⟩
  have Yp:=aa hrr
  replace X5:=aa (X5.o r hrr)
  clear hrr
  generalize vh s s.cells[k].name=L at uf Yp
  generalize s.cells[k]=c at uf g0 g1
  obtain⟨cn,cu,cd⟩:=c
  dsimp only at uf g0 g1
  clear hmem
  have HLk:=aa (show(RA s (n,nm) k).length≤1000000 by have:=X6 s (n,nm) k;omega)
  generalize RA s (n,nm) k=acc at HQ X5 HLk
  obtain⟨Aq,cq,hvq,_,_⟩:=HQ.o.slice
  subst hvq
  go_upto_region 8 with fail
  obtain⟨we,xN⟩:∃ we,we=wr.alloc (.cells #[bV cn,bV cu,.int .i64 eR,.int .i64 yn,bV eT,bV eU,bW B9 ny c9] 49):=⟨_,rfl⟩
  have KB:=aa (show cN we wr 49 [bV cn,bV cu,bU eR,bU yn,bV eT,bV eU,bW B9 ny c9] by rw[xN];exact heap_alloc_new wr _)
  have pg:=aa (show Below w2 w2 we by rw[xN];exact dH.o.alloc dH.o.size _)
  have HQe:=aa (show dO jV 3 w2.heap.size we (fun _=>False) (bW Aq acc cq) acc by rw[xN];exact HQ.o.bZ (cS _))
  rw[← xN]
  clear xN g0 g1 g2 g3 g4 g5 g6 x0 HQ dH cG
  generalize wr.heap.size=gb at KB ⊢
  have g0:=KB.o.cell
  have Q3:=aa (fun W b (h:ij W b L.length (lW L))=>yV h hz Yp.o)
  cases r
  case false=>
   go_wp2_with (first
   |(go_at_call 30;refine(ow _ _ _).mono ?_;rintro e w3 ⟨rfl,rfl⟩)
   |(go_at_call 29;go_loud (refine(uf.o _ (pg.o.alloc pg.o.size _)).mono ?_);rintro e w4 ⟨b,rfl,hM,hb,KN⟩;have hlk:=Q3.o _ _ (hM.alloc (.cells #[.int .i64 n,.string nm] 51));have gC:=aa (show Below we we w4 from((aaf we we).alloc aac (.cells #[.int .i64 4,.string cn] 51)).trans (KN.mono aJ));clear hM hb KN))
   have dF:=aa (pg.o.trans ((gC.o.alloc gC.o.size (.cells #[bU n,bV nm] 51)).mono pg.o.size));have Gk:=aa (show dO jV 3 w2.heap.size (w4.alloc (.cells #[bU n,bV nm] 51)) (fun _=>False) (bW Aq acc cq) (RA s (n,nm) (k+1)) by rw[X5.o];simpa using HQe.o.bZ (gC.o.alloc gC.o.size _));go_roundw;exact⟨k+1,_,by omega,rfl,rfl,Gk,dF⟩;simp[intOf];omega
  case true=>
   go_upto_region 9 with(first
   |(go_at_call 30;refine(ow _ _ _).mono ?_;rintro e w3 ⟨rfl,rfl⟩)
   |(go_at_call 29;go_loud (refine(uf.o _ (pg.o.alloc pg.o.size _)).mono ?_);rintro e w4 ⟨b,rfl,hM,hb,KN⟩;have hlk:=Q3.o _ _ (hM.alloc (.cells #[.int .i64 n,.string nm] 51));have gC:=aa (show Below we we w4 from((aaf we we).alloc aac (.cells #[.int .i64 4,.string cn] 51)).trans (KN.mono aJ));clear hM hb KN))
   have dF:=aa (pg.o.trans ((gC.o.alloc gC.o.size (.cells #[bU n,bV nm] 51)).mono pg.o.size));have Gk:=aa (HQe.o.bZ (gC.o.alloc gC.o.size (.cells #[bU n,bV nm] 51)));generalize w4.alloc (.cells #[bU n,bV nm] 51)=w5 at dF Gk ⊢;clear hlk gC HQe pg KB g0;have hLk:=HLk.o;have hs5:=dF.o.size;go_wp2_with (at_builtin;refine dz (R:=jV) (S:=fun _=>False) (xs:=acc) (ys:=[k]) (T:=3) (t:=38) (B:=w2) rfl (.tmp 36) (.tmp 38) 38 rfl rfl Ua (Gk.o.bZ (cS _)) rfl _ 1 1 rfl rfl ?hN ?hl ?hB rfl (n:=acc.length+1) rfl ?_);(case hN=>exact qQ.iM (R:=jV) (cs:=[bU (k:Int)]) (x:=k) rfl _ rfl);(case hl=>omega);(case hB=>rw[aaI];omega);intro A9 c9 w9 Ba HG;have XN:=aa (show dO jV 3 w2.heap.size w9 (fun _=>False) (bW A9 (acc.length+1) c9) (RA s (n,nm) (k+1)) by rw[X5.o];exact HG.o.own);have je:=aa (show Below w2 w2 w9 from(dF.o.alloc dF.o.size _).grown HG.o.turn aJ (fun j e=>(Gk.o.lt j e).1));clear HG hLk hs5;go_wp2;go_roundw;exact⟨k+1,_,by omega,rfl,rfl,XN,je⟩;simp[intOf];omega
 (obtain rfl:k=s.cells.length:=by omega);obtain⟨A9,c9,hv,_⟩:=HQ.o.slice;subst hv;go_wp2;exact HP.o (.returned (bW A9 (RA s (n,nm) s.cells.length).length c9)) _ ⟨A9,c9,_,rfl,(HQ.o.mono (fun b _ (h:False)=>h.elim)).sq fun _ _ _=>trivial,cG.o,fun _=>rfl,fun h=>absurd HK.o h⟩
end
section
open Go Go.RowKit Bg Go.Proofs Sh Kb
theorem KP (A A':Option Addr) (c c':Nat) (l:List (Int×ByteArray)) (w:World) (h:Sq dI w Any A l) (h':Sq dI w Any A' l) (hl:l.length≤100000000):Calls prog 8 #[bW A l c,bW A' l c'] w fun e w'=>e= .returned (.bool true)∧Below w w w':=by
 obtain⟨n,hn⟩:∃ n,n=l.length:=⟨_,rfl⟩;have HN:=aa hn;rw[← hn]at hl ⊢;have H1:=aa h;have H2:=aa h';clear h h' hn;go_enter func8,ntmps8;go_wp2;go_loopw [5] (fun v wr=>∃ k:Nat,k≤n∧v=bU (k:Int)∧Hid (Below w w wr)) (fun v _=>n - (intOf v).toNat);(case atStart=>exact⟨0,by omega,rfl,aa (aaf _ _)⟩);obtain⟨k,hk,rfl,HB⟩:=hrel;by_cases hlt:k<n
 ·(have nO:k<l.length:=by have:=HN.o;omega);obtain⟨b,o,cs,hA,_,_,hcs,cM⟩:=(H1.o.bZ HB.o).get nO;obtain⟨b',o',cs',hA',_,_,Dz,l_⟩:=(H2.o.bZ HB.o).get nO;subst hA hA';have hcs:cs=[bU l[k].1,bV l[k].2]:=hcs;have Dz:cs'=[bU l[k].1,bV l[k].2]:=Dz;subst hcs Dz;have c0:b_ wr b (o+k*2) (bU l[k].1):=cM 0 _ rfl;have c1:b_ wr b (o+k*2+1) (bV l[k].2):=cM 1 _ rfl;have d0:b_ wr b' (o'+k*2) (bU l[k].1):=l_ 0 _ rfl;have d1:b_ wr b' (o'+k*2+1) (bV l[k].2):=l_ 1 _ rfl;generalize l[k]=x at c0 c1 d0 d1;obtain⟨x1,x2⟩:=x;dsimp only at c0 c1 d0 d1;clear cM l_;go_wp2_with fail;have hq:∀ w,(binOp .neq 51 (.agg #[bU x1,bV x2]) (.agg #[bU x1,bV x2])).run prog w= .ok (.bool false) w:=fun w=>by
   go_simp
  go_quiet (fail);have dG:=aa (below_drewN HB.o nq);generalize wr.drewN nq=wa at dG ⊢;go_wp2;go_roundw;exact⟨k+1,by omega,rfl,dG⟩;simp[intOf];omega
 (obtain rfl:k=n:=by omega);go_wp2;go_ret;exact⟨rfl,HB.o⟩
end
section
open Go Go.RowKit Bg Go.Proofs Sh Kb Ln
def iY (b:Bool) (w:World) (e:Ending) (w':World):Prop:=e= .returned (.bool b)∧Below w w w'
theorem zy (q:Int) (nm:ByteArray) (N:Nat) (hN:N≤1000000):∀ (x:cw),cE x≤N→∀ (w:World) (cs:List Value),cH w Any cs x→Calls prog 18 #[.agg cs.toArray,bU q,bV nm] w (iY (Ln.ez q nm x) w):=by
 induction N with
 |zero=>intro x hx;have:=dB x;omega
 |succ N ih=>
  intro x hx w cs hI
  replace ih:=ih af
  generalize hP:iY (Ln.ez q nm x) w=P
  have HP:=aa (show ∀ e w',iY (Ln.ez q nm x) w e w'→P e w' from fun e w' h=>hP▸h)
  clear hP
  obtain⟨op,m,un,D7,A2,c2,ar,e1,e2,hS⟩:=cH.parts hI
  subst e1 e2
  have vE:cE (.mk op m un D7 ar)=1+cT ar:=by unfold cE;rfl
  have hnl:=fN ar
  have har:ar.length≤1000000:=by omega
  have um:=aa (fun y (hy:y∈ar)=>ih y aZ)
  have HA:=aa hS
  have HE:=aa (show Ln.ez q nm (.mk op m un D7 ar)=(kD q nm (.mk op m un D7 ar)||ar.any (Ln.ez q nm))from lQ _ _ _ _ _ _)
  have HN:=aa (show kD q nm (.mk op m un D7 ar)=(D7==nm&&((op==1&&(q==1||q==4))||(op==2&&q==2)||(op==3&&q==3)))from rfl)
  generalize Ln.ez q nm (.mk op m un D7 ar)=r at HP HE
  generalize kD q nm (.mk op m un D7 ar)=r2 at HE HN
  have oG:=aa (show cN (w.alloc (.cells #[bU op,bU m,bV un,bV D7,bW A2 ar c2] 47)) w 47 [bU op,bU m,bV un,bV D7,bW A2 ar c2]from heap_alloc_new w _)
  have gT:=aa ((aaf w w).alloc aac (.cells #[bU op,bU m,bV un,bV D7,bW A2 ar c2] 47))
  clear hI hS ih vE hx
  go_enter func18,ntmps18
  go_upto_region 1 with fail
  generalize (w.alloc (.cells #[bU op,bU m,bV un,bV D7,bW A2 ar c2] 47))=w1 at oG gT ⊢
  obtain⟨p,hp⟩:∃ p,p=w.heap.size:=⟨_,rfl⟩
  have uu:=aa hp
  rw[← hp]at oG ⊢
  clear hp
  have x1:=oG.o.cell
  go_wp2_with fail
  clear x1
  go_loopw [7] (fun v wr=>∃ k:Nat,k≤ar.length∧v=bU (k:Int)∧Hid ((ar.take k).any (Ln.ez q nm)=false)∧Hid (cN wr p 47 [bU op,bU m,bV un,bV D7,bW A2 ar c2])∧Hid (Below w w wr)) (fun v _=>ar.length - (intOf v).toNat)
  case atStart=>exact⟨0,aaG _,rfl,aa rfl,oG,gT⟩
  case round=>
   clear oG gT;obtain⟨k,hk,rfl,HF,HK,HB⟩:=hrel;have x1:=HK.o.cell;by_cases hlt:k<ar.length;(case pos=>obtain⟨bl,o,cs,hA,yK,hbl,ey,cM⟩:=(HA.o.bZ HB.o).get hlt;subst hA;have hmem:=aan hlt;have HT:=aa (show(ar.take (k+1)).any (Ln.ez q nm)=Ln.ez q nm ar[k] by rw[aaz hlt,List.any_append,HF.o];simp);obtain⟨eR,yn,eT,eU,A3,c3,yr,oh,hes,_⟩:=cH.parts ey;have HC:=aa (um.o _ hmem wr cs ey);have BB:=aa hmem;generalize ar[k]=y at oh HT HC BB;subst hes;have g0:b_ wr bl (o+k*5) (bU eR):=cM 0 _ rfl;have g1:b_ wr bl (o+k*5+1) (bU yn):=cM 1 _ rfl;have g2:b_ wr bl (o+k*5+2) (bV eT):=cM 2 _ rfl;have g3:b_ wr bl (o+k*5+3) (bV eU):=cM 3 _ rfl;have g4:b_ wr bl (o+k*5+4) (bW A3 yr c3):=cM 4 _ rfl;clear cM ey oh hmem;go_wp2_with fail;refine HC.o.mono ?_;rintro e w5 ⟨rfl,ew⟩;have dF:=aa (HB.o.trans (ew.mono HB.o.size));have Ic:=aa (HK.o.bZ ew HK.o.lt);clear ew HB HK HC x1 g0 g1 g2 g3 g4;generalize hr:Ln.ez q nm y=ry at HT;have HR:=aa hr;clear hr;cases ry;(case true=>have HEt:=aa (show r=true by rw[HE.o,Bool.or_eq_true,List.any_eq_true];exact .inr ⟨_,BB.o,HR.o⟩);go_wp2;exact HP.o (.returned (.bool true)) _ ⟨by rw[HEt.o],dF.o⟩);go_wp2;go_roundw;exact⟨k+1,by omega,rfl,HT,Ic,dF⟩;simp[intOf];omega);(obtain rfl:k=ar.length:=by omega);rw[List.take_length]at HF;have GD:=aa (show r=r2 by rw[HE.o,HF.o,Bool.or_false]);clear HE HF um HA;by_cases h2:D7=nm;case neg=>
    have z2:(D7.toList==nm.toList)=false:=by
     rw[Bool.eq_false_iff];intro h;have:=eq_of_beq h;rw[Lib.toList_data,Lib.toList_data]at this;exact h2 (ByteArray.ext (Array.toList_inj.1 this))
    have HEf:=aa (show r=false by rw[GD.o,HN.o,show(D7==nm)=false by rw[beq_eq_false_iff_ne];exact h2];rfl);go_wp2;exact HP.o (.returned (.bool false)) _ ⟨by rw[HEf.o],HB.o⟩
   subst h2;have z2:(D7.toList==D7.toList)=true:=ai;have uq:=aa (show r=((op==1&&(q==1||q==4))||(op==2&&q==2)||(op==3&&q==3)) by rw[GD.o,HN.o,beq_self_eq_true,Bool.true_and]);clear HN GD;(have o12:(op==1)=true→(op==2)=false∧(op==3)=false:=fun h=>by have:=eq_of_beq h;subst this;exact⟨rfl,rfl⟩);(have o23:(op==2)=true→(op==3)=false:=fun h=>by have:=eq_of_beq h;subst this;rfl);cases b1:(op==1);(case true=>obtain⟨b2,b3⟩:=o12 b1;clear o12 o23;rw[b1,b2,b3]at uq;cases q1:(q==1)<;>cases q4:(q==4)<;>(rw[q1,q4]at uq;go_wp2;exact HP.o _ _ ⟨by rw[uq.o];rfl,HB.o⟩));cases b2:(op==2);(case true=>have b3:=o23 b2;clear o12 o23;rw[b1,b2,b3]at uq;cases q2:(q==2)<;>(rw[q2]at uq;go_wp2;exact HP.o _ _ ⟨by rw[uq.o];simp,HB.o⟩));clear o12 o23;cases b3:(op==3);(case true=>rw[b1,b2,b3]at uq;cases q3:(q==3)<;>(rw[q3]at uq;go_wp2;exact HP.o _ _ ⟨by rw[uq.o];simp,HB.o⟩));rw[b1,b2,b3]at uq;go_wp2;exact HP.o _ _ ⟨by rw[uq.o];simp,HB.o⟩
end
section
open Go Go.RowKit Bg Go.Proofs Sh Kb Ck Ln
theorem O1 {s:cK} (hr:fV s=true) (hz:gj s) {c:fD} (hc:c∈s.cells) {l:List eN} (h:Hf s c.name l):l.length≤100000:=by
 have hn:l.Nodup:=h.asc.imp fun {a b} (hab:Dx a b) (e:a=b)=>oW b (by rw[e]at hab;exact hab);exact aaC (ot hn fun x hx=>((jN (gA hc) fG).sub (gA hc) fG).1 x ((h.mem x).1 hx)) (tI hr hz)
theorem AR:gj qc:=(PZ J6).sm
theorem Vn {s:cK} {i:Nat} {f:Nat} {args:Array Value} {w:World} (hc:ia s=0) (hi:i<s.cells.length) (h:Calls prog f args w (OnP s (i:Int) w)):Calls prog f args w fun e w'=>∃ A c l,e= .returned (.slice A l.length c)∧Ln.Hf s s.cells[i].name l∧Sq dI w' Any A l∧Below w w w':=by
 refine h.mono ?_;rintro e w' ⟨A,c,l,h1,h2,h3,⟨h4,_⟩|⟨_,j,hj,h5,h6⟩⟩
 (·exact absurd ⟨hc,by omega,by omega⟩ h4);(obtain rfl:i=j:=by omega);exact⟨A,c,l,h1,h6,h2,h3⟩
theorem on_out {s:cK} {n:Int} {f:Nat} {args:Array Value} {w:World} (hn:¬(ia s=0∧0≤n∧n<s.cells.length)) (h:Calls prog f args w (OnP s n w)):Calls prog f args w fun e w'=>∃ A c,e= .returned (bW A 0 c)∧Below w w w':=by
 refine h.mono ?_;rintro e w' ⟨A,c,l,h1,h2,h3,⟨h4,h5⟩|⟨h0,j,hj,h5,h6⟩⟩
 (·subst h5;exact⟨A,c,h1,h3⟩);exact absurd ⟨h0,by omega,by omega⟩ hn
theorem KR {s:cK} {x:Ln.eN} {f:Nat} {args:Array Value} {w:World} (hc:ia s=0) (h:Calls prog f args w (OfP s x w)) {l:List Nat} (hl:Ln.UE s x=l):Calls prog f args w fun e w'=>∃ A c,e= .returned (bW A l c)∧Sq jV w' Any A l∧Below w w w':=by
 refine h.mono ?_;rintro e w' ⟨A,c,l',h1,h2,h3,h4,_⟩;have e2:=(h4 hc).trans hl;subst e2;exact⟨A,c,h1,h2,h3⟩
theorem Vo (w:World):Calls prog 6 #[] w (iY true w):=by
 generalize hP:iY true w=P
 have HP:=aa (show ∀ e w',iY true w e w'→P e w' from fun e w' h=>hP▸h)
 clear hP
 go_enter func6,ntmps6
 go_wp2_with fail
 refine(J7 w).mono ?_
 rintro e w1 ⟨a,rfl,hI,hb⟩
 have HB:=aa hb
 have I:=aa hI
 clear hb hI
 obtain⟨A1,q1,A2,q2,A3,q3,A4,q4,A5,q5,A6,q6,A7,q7,A8,q8⟩:=a
 have HI0:=aa (fun W (h:Below w1 w1 W)=>I.o.bZ h)
 clear I
 simp only[dU]
 go_upto_region 2 with fail
 obtain⟨w2,hw⟩:∃ W,W=w1.alloc (.cells (g_ Ck.qc A1 A2 A3 A4 A5 A6 A7 A8 q1 q2 q3 q4 q5 q6 q7 q8) 31):=⟨_,rfl⟩
 have K:=aa (show cN w2 w1 31 (g_ Ck.qc A1 A2 A3 A4 A5 A6 A7 A8 q1 q2 q3 q4 q5 q6 q7 q8) by rw[hw];exact heap_alloc_new w1 _)
 have hb:Below w1 w1 w2:=by rw[hw];exact cS _
 rw[← hw]
 clear hw
 obtain⟨p,hp⟩:∃ p,p=w1.heap.size:=⟨_,rfl⟩
 rw[← hp]at K ⊢
 replace HB:=aa (HB.o.trans (hb.mono HB.o.size))
 have I:=aa (HI0.o w2 hb)
 clear hb HI0 hp
 go_upto_region 3 with fail
 obtain⟨w3,hw⟩:∃ W,W=w2.alloc (.cells #[.int .i64 1,bV ⟨#[105,110]⟩,.int .i64 2,bV ⟨#[103,114,105,100]⟩,.int .i64 3,bV ⟨#[102]⟩,.int .i64 3,bV ⟨#[103]⟩,.int .i64 4,bV ⟨#[98]⟩] 51):=⟨_,rfl⟩
 have hk:cN w3 w2 51 [bU 1,bV ⟨#[105,110]⟩,bU 2,bV ⟨#[103,114,105,100]⟩,bU 3,bV ⟨#[102]⟩,bU 3,bV ⟨#[103]⟩,bU 4,bV ⟨#[98]⟩]:=by rw[hw];exact heap_alloc_new w2 _
 have hb:Below w2 w2 w3:=by rw[hw];exact cS _
 rw[← hw]
 clear hw
 have SB:=aa (show Sq dI w3 Any (some ⟨w2,0,none⟩) [(((1:Int),(⟨#[105,110]⟩:ByteArray))),(((2:Int),(⟨#[103,114,105,100]⟩:ByteArray))),(((3:Int),(⟨#[102]⟩:ByteArray))),(((3:Int),(⟨#[103]⟩:ByteArray))),(((4:Int),(⟨#[98]⟩:ByteArray)))]from Sq.vw (R:=dI) (css:=[[bU 1,.string ⟨#[105,110]⟩],[bU 2,.string ⟨#[103,114,105,100]⟩],[bU 3,.string ⟨#[102]⟩],[bU 3,.string ⟨#[103]⟩],[bU 4,.string ⟨#[98]⟩]]) hk rfl (by intro c hc;simp at hc;rcases hc with rfl|rfl|rfl|rfl|rfl<;>rfl) trivial (fun j cs x hc hx=>by match j with|0=>(simp at hc hx;subst hc hx;rfl)|1=>(simp at hc hx;subst hc hx;rfl)|2=>(simp at hc hx;subst hc hx;rfl)|3=>(simp at hc hx;subst hc hx;rfl)|4=>(simp at hc hx;subst hc hx;rfl)|j+5=>(simp at hc)))
 clear hk
 generalize w2.heap.size=pSB at SB ⊢
 replace HB:=aa (HB.o.trans (hb.mono HB.o.size))
 replace K:=aa (K.o.bZ hb K.o.lt)
 replace I:=aa (I.o.bZ hb)
 clear hb
 go_upto_region 4 with fail
 obtain⟨w4,hw⟩:∃ W,W=w3.alloc (.cells #[.int .i64 4,bV ⟨#[97]⟩,.int .i64 4,bV ⟨#[100]⟩] 51):=⟨_,rfl⟩
 have hk:cN w4 w3 51 [bU 4,bV ⟨#[97]⟩,bU 4,bV ⟨#[100]⟩]:=by rw[hw];exact heap_alloc_new w3 _
 have hb:Below w3 w3 w4:=by rw[hw];exact cS _
 rw[← hw]
 clear hw
 have SD:=aa (show Sq dI w4 Any (some ⟨w3,0,none⟩) [(((4:Int),(⟨#[97]⟩:ByteArray))),(((4:Int),(⟨#[100]⟩:ByteArray)))]from Sq.vw (R:=dI) (css:=[[bU 4,.string ⟨#[97]⟩],[bU 4,.string ⟨#[100]⟩]]) hk rfl (by intro c hc;simp at hc;rcases hc with rfl|rfl<;>rfl) trivial (fun j cs x hc hx=>by match j with|0=>(simp at hc hx;subst hc hx;rfl)|1=>(simp at hc hx;subst hc hx;rfl)|j+2=>(simp at hc)))
 clear hk
 generalize w3.heap.size=pSD at SD ⊢
 replace HB:=aa (HB.o.trans (hb.mono HB.o.size))
 replace K:=aa (K.o.bZ hb K.o.lt)
 replace I:=aa (I.o.bZ hb)
 replace SB:=aa (SB.o.bZ hb)
 clear hb
 have x:=K.o.cell
 go_wp2_with fail
 refine((show Calls _ _ _ w4 (Np 0 w4)from Ck.oQ▸vD ⟨A1,q1,A2,q2,A3,q3,A4,q4,A5,q5,A6,q6,A7,q7,A8,q8⟩ Ck.qc w4 I.o AR)).mono ?_
 rintro e w5 ⟨nm,rfl,hb⟩
 clear x
 replace HB:=aa (HB.o.trans (hb.mono HB.o.size))
 replace K:=aa (K.o.bZ hb K.o.lt)
 replace I:=aa (I.o.bZ hb)
 replace SB:=aa (SB.o.bZ hb)
 replace SD:=aa (SD.o.bZ hb)
 clear hb
 have x:=K.o.cell
 go_wp2_with fail
 refine(Vn Ck.oQ (show 1<Ck.qc.cells.length by decide) (BL ⟨A1,q1,A2,q2,A3,q3,A4,q4,A5,q5,A6,q6,A7,q7,A8,q8⟩ Ck.qc 1 w5 I.o AR)).mono ?_
 rintro e w6 ⟨A,c,l,rfl,hl,hs,hb⟩
 clear x
 replace HB:=aa (HB.o.trans (hb.mono HB.o.size))
 replace K:=aa (K.o.bZ hb K.o.lt)
 replace I:=aa (I.o.bZ hb)
 replace SB:=aa (SB.o.bZ hb)
 replace SD:=aa (SD.o.bZ hb)
 clear hb
 obtain rfl:=Ln.ex_l1 hl
 have SX:=aa hs
 clear hl hs
 have x:=K.o.cell
 go_wp2_with fail
 refine(KP A (bY pSB 0) c 5 _ w6 SX.o SB.o ak).mono ?_
 rintro e w7 ⟨rfl,hb⟩
 clear x
 replace HB:=aa (HB.o.trans (hb.mono HB.o.size))
 replace K:=aa (K.o.bZ hb K.o.lt)
 replace I:=aa (I.o.bZ hb)
 replace SB:=aa (SB.o.bZ hb)
 replace SD:=aa (SD.o.bZ hb)
 replace SX:=aa (SX.o.bZ hb)
 clear hb
 clear SX
 have x:=K.o.cell
 go_wp2_with fail
 refine(Vn Ck.oQ (show 3<Ck.qc.cells.length by decide) (BL ⟨A1,q1,A2,q2,A3,q3,A4,q4,A5,q5,A6,q6,A7,q7,A8,q8⟩ Ck.qc 3 w7 I.o AR)).mono ?_
 rintro e w8 ⟨A,c,l,rfl,hl,hs,hb⟩
 clear x
 replace HB:=aa (HB.o.trans (hb.mono HB.o.size))
 replace K:=aa (K.o.bZ hb K.o.lt)
 replace I:=aa (I.o.bZ hb)
 replace SB:=aa (SB.o.bZ hb)
 replace SD:=aa (SD.o.bZ hb)
 clear hb
 obtain rfl:=Ln.ex_l3 hl
 have SX:=aa hs
 clear hl hs
 have x:=K.o.cell
 go_wp2_with fail
 refine(KP A (bY pSD 0) c 2 _ w8 SX.o SD.o ak).mono ?_
 rintro e w9 ⟨rfl,hb⟩
 clear x
 replace HB:=aa (HB.o.trans (hb.mono HB.o.size))
 replace K:=aa (K.o.bZ hb K.o.lt)
 replace I:=aa (I.o.bZ hb)
 replace SB:=aa (SB.o.bZ hb)
 replace SD:=aa (SD.o.bZ hb)
 replace SX:=aa (SX.o.bZ hb)
 clear hb
 clear SX
 have x:=K.o.cell
 go_wp2_with fail
 refine(on_out (show ¬(Ck.ia Ck.qc=0∧0≤(4:Int)∧(4:Int)<Ck.qc.cells.length)from fun h=>absurd h.2.2 ak) (BL ⟨A1,q1,A2,q2,A3,q3,A4,q4,A5,q5,A6,q6,A7,q7,A8,q8⟩ Ck.qc 4 w9 I.o AR)).mono ?_
 rintro e Xy ⟨A,c,rfl,hb⟩
 clear x
 replace HB:=aa (HB.o.trans (hb.mono HB.o.size))
 replace K:=aa (K.o.bZ hb K.o.lt)
 replace I:=aa (I.o.bZ hb)
 replace SB:=aa (SB.o.bZ hb)
 replace SD:=aa (SD.o.bZ hb)
 clear hb
 have x:=K.o.cell
 go_wp2_with fail
 refine(KR Ck.oQ (xL ⟨A1,q1,A2,q2,A3,q3,A4,q4,A5,q5,A6,q6,A7,q7,A8,q8⟩ Ck.qc 4 ⟨#[120]⟩ ⟨(by decide:(Lit.int .i64 4).wf=true),by unfold maxLen;decide⟩ Xy I.o AR) Ln.OS.1).mono ?_
 rintro e w11 ⟨A,c,rfl,hs,hb⟩
 clear x
 replace HB:=aa (HB.o.trans (hb.mono HB.o.size))
 replace K:=aa (K.o.bZ hb K.o.lt)
 replace I:=aa (I.o.bZ hb)
 replace SB:=aa (SB.o.bZ hb)
 replace SD:=aa (SD.o.bZ hb)
 clear hb
 have SX:=aa hs
 clear hs
 clear SX
 have x:=K.o.cell
 go_wp2_with fail
 refine(KR Ck.oQ (xL ⟨A1,q1,A2,q2,A3,q3,A4,q4,A5,q5,A6,q6,A7,q7,A8,q8⟩ Ck.qc 1 ⟨#[97,105,114]⟩ ⟨(by decide:(Lit.int .i64 1).wf=true),by unfold maxLen;decide⟩ w11 I.o AR) Ln.OS.2.1).mono ?_
 rintro e Qn ⟨A,c,rfl,hs,hb⟩
 clear x
 replace HB:=aa (HB.o.trans (hb.mono HB.o.size))
 replace K:=aa (K.o.bZ hb K.o.lt)
 replace I:=aa (I.o.bZ hb)
 replace SB:=aa (SB.o.bZ hb)
 replace SD:=aa (SD.o.bZ hb)
 clear hb
 have SX:=aa hs
 clear hs
 go_wp2_with fail
 have hb:Below Qn Qn (Qn.alloc (.cells #[bU 2] 3)):=cS _
 have hk:cN (Qn.alloc (.cells #[bU 2] 3)) Qn 3 [bU 2]:=heap_alloc_new Qn _
 have hq:Sq jV (Qn.alloc (.cells #[bU 2] 3)) Any (some ⟨Qn,0,none⟩) [2]:=Sq.vw (R:=jV) (css:=[[bU 2]]) hk rfl (by intro c hc;simp at hc;rcases hc with rfl<;>rfl) trivial (fun j cs x hc hx=>by match j with|0=>(simp at hc hx;subst hc hx;rfl)|j+1=>(simp at hc))
 refine(Dy A (bY Qn 0) c 1 _ _ _ (SX.o.bZ hb) hq rfl ak).mono ?_
 rintro e w13 ⟨rfl,hb2⟩
 replace hb:Below Qn Qn w13:=hb.trans (hb2.mono hb.size)
 clear hb2 hk hq SX
 replace HB:=aa (HB.o.trans (hb.mono HB.o.size))
 replace K:=aa (K.o.bZ hb K.o.lt)
 replace I:=aa (I.o.bZ hb)
 replace SB:=aa (SB.o.bZ hb)
 replace SD:=aa (SD.o.bZ hb)
 clear hb
 have x:=K.o.cell
 go_wp2_with fail
 refine(KR Ck.oQ (xL ⟨A1,q1,A2,q2,A3,q3,A4,q4,A5,q5,A6,q6,A7,q7,A8,q8⟩ Ck.qc 4 ⟨#[97]⟩ ⟨(by decide:(Lit.int .i64 4).wf=true),by unfold maxLen;decide⟩ w13 I.o AR) Ln.OS.2.2.1).mono ?_
 rintro e qa ⟨A,c,rfl,hs,hb⟩
 clear x
 replace HB:=aa (HB.o.trans (hb.mono HB.o.size))
 replace K:=aa (K.o.bZ hb K.o.lt)
 replace I:=aa (I.o.bZ hb)
 replace SB:=aa (SB.o.bZ hb)
 replace SD:=aa (SD.o.bZ hb)
 clear hb
 have SX:=aa hs
 clear hs
 go_wp2_with fail
 have hb:Below qa qa (qa.alloc (.cells #[bU 0,bU 2,bU 3] 3)):=cS _
 have hk:cN (qa.alloc (.cells #[bU 0,bU 2,bU 3] 3)) qa 3 [bU 0,bU 2,bU 3]:=heap_alloc_new qa _
 have hq:Sq jV (qa.alloc (.cells #[bU 0,bU 2,bU 3] 3)) Any (some ⟨qa,0,none⟩) [0,2,3]:=Sq.vw (R:=jV) (css:=[[bU 0],[bU 2],[bU 3]]) hk rfl (by intro c hc;simp at hc;rcases hc with rfl|rfl|rfl<;>rfl) trivial (fun j cs x hc hx=>by match j with|0=>(simp at hc hx;subst hc hx;rfl)|1=>(simp at hc hx;subst hc hx;rfl)|2=>(simp at hc hx;subst hc hx;rfl)|j+3=>(simp at hc))
 refine(Dy A (bY qa 0) c 3 _ _ _ (SX.o.bZ hb) hq rfl ak).mono ?_
 rintro e w15 ⟨rfl,hb2⟩
 replace hb:Below qa qa w15:=hb.trans (hb2.mono hb.size)
 clear hb2 hk hq SX
 replace HB:=aa (HB.o.trans (hb.mono HB.o.size))
 replace K:=aa (K.o.bZ hb K.o.lt)
 replace I:=aa (I.o.bZ hb)
 replace SB:=aa (SB.o.bZ hb)
 replace SD:=aa (SD.o.bZ hb)
 clear hb
 have x:=K.o.cell
 go_wp2_with fail
 refine(KR Ck.oQ (xL ⟨A1,q1,A2,q2,A3,q3,A4,q4,A5,q5,A6,q6,A7,q7,A8,q8⟩ Ck.qc 2 ⟨#[103,114,105,100]⟩ ⟨(by decide:(Lit.int .i64 2).wf=true),by unfold maxLen;decide⟩ w15 I.o AR) Ln.OS.2.2.2).mono ?_
 rintro e Rw ⟨A,c,rfl,hs,hb⟩
 clear x
 replace HB:=aa (HB.o.trans (hb.mono HB.o.size))
 replace K:=aa (K.o.bZ hb K.o.lt)
 replace I:=aa (I.o.bZ hb)
 replace SB:=aa (SB.o.bZ hb)
 replace SD:=aa (SD.o.bZ hb)
 clear hb
 have SX:=aa hs
 clear hs
 go_wp2_with fail
 have hb:Below Rw Rw (Rw.alloc (.cells #[bU 1,bU 2] 3)):=cS _
 have hk:cN (Rw.alloc (.cells #[bU 1,bU 2] 3)) Rw 3 [bU 1,bU 2]:=heap_alloc_new Rw _
 have hq:Sq jV (Rw.alloc (.cells #[bU 1,bU 2] 3)) Any (some ⟨Rw,0,none⟩) [1,2]:=Sq.vw (R:=jV) (css:=[[bU 1],[bU 2]]) hk rfl (by intro c hc;simp at hc;rcases hc with rfl|rfl<;>rfl) trivial (fun j cs x hc hx=>by match j with|0=>(simp at hc hx;subst hc hx;rfl)|1=>(simp at hc hx;subst hc hx;rfl)|j+2=>(simp at hc))
 refine(Dy A (bY Rw 0) c 2 _ _ _ (SX.o.bZ hb) hq rfl ak).mono ?_
 rintro e w17 ⟨rfl,hb2⟩
 replace hb:Below Rw Rw w17:=hb.trans (hb2.mono hb.size)
 clear hb2 hk hq SX
 replace HB:=aa (HB.o.trans (hb.mono HB.o.size))
 replace K:=aa (K.o.bZ hb K.o.lt)
 replace I:=aa (I.o.bZ hb)
 replace SB:=aa (SB.o.bZ hb)
 replace SD:=aa (SD.o.bZ hb)
 clear hb
 go_wp2_with fail
 exact HP.o (.returned (.bool true)) _ ⟨rfl,HB.o⟩
end
section
open Go Go.RowKit
section
section
variable {P:Program} {ops:Array Oper} {md:Region.Mode} {S:Nat→World→Prop} {Q:Exit→Act→World→Prop} {D:List Nat}
def left (md:Region.Mode) (ops:Array Oper) (D:List Nat) (j:Nat):List Nat:=D.filter fun d=> !waits md ops 12 j d
def Vp (S:Nat→World→Prop) (w:World):List Nat→Prop
 |[]=>True
 |d :: l=>S d w∧Vp S w l
theorem Vp.mem {w:World}:∀ {l:List Nat},Vp S w l→∀ d∈l,S d w
 |[],_,d,h=>by cases h
 |a :: l,hs,d,h=>by
  rcases List.mem_cons.1 h with rfl|h
  (·exact hs.1);exact Vp.mem hs.2 d h
def HW2 (P:Program) (md:Region.Mode) (ops:Array Oper) (S:Nat→World→Prop) (Q:Exit→Act→World→Prop) (D:List Nat):List (Nat×Bool)→Act→World→Prop
 |[],a,w=>Q .normal a w
 |(i,false) :: r,a,w=>∃ oi v,ops[i]? =some oi∧YieldsIf P ops (S i) oi v a∧HW2 P md ops S Q D r (a.put oi.dst v) w
 |(i,true) :: r,a,w=>wpOp P ops Q i (fun a' w'=>Vp S w' (left md ops D i)∧HW2 P md ops S Q D r a' w') a w
end
end
end
open Go Go.RowKit Go.Proofs Sh Kb
def FR (nodes:Int) (w:World) (e:Ending) (w':World):Prop:=∃ z:Int,e= .returned (bU z)∧(z=-1∨(1≤z∧z≤nodes))∧Below w w w'
theorem DO {nodes:Int} {w w':World} (hb:Below w w w'):FR nodes w (.returned (bU (-1))) w':=⟨-1,rfl,.inl rfl,hb⟩
theorem Q4 (op n:Int) (unit name:ByteArray) (A:Option Addr) (c:Nat) (args:List cw) (nodes levels:Int) (w:World) (hl:args.length≤1000000) (hA:Sq di w Any A args) (hb:-1000≤nodes∧nodes≤1000∧-1000≤levels∧levels≤1000) (ih:∀ x∈args,∀ (cs:List Value) (W:World) (nodes levels:Int),cH W Any cs x→(-1000≤nodes∧nodes≤1000∧-1000≤levels∧levels≤1000)→Calls prog 56 #[.agg cs.toArray,bU nodes,bU levels] W (FR nodes W)):Calls prog 56 #[.agg #[bU op,bU n,bV unit,bV name,bW A args c],bU nodes,bU levels] w (FR nodes w):=by
 generalize hP:FR nodes w=P;have HP:=aa (show ∀ e w',FR nodes w e w'→P e w' from fun e w' h=>hP▸h);clear hP;have HA:=aa hA;have um:=aa ih;obtain⟨b1,b2,b3,b4⟩:=hb;obtain⟨na,hna⟩:∃ n,n=args.length:=⟨_,rfl⟩;rw[← hna]at hl ⊢;have HNA:=aa hna;clear hA ih hna;go_enter func56,ntmps56;go_upto_region 1 with fail;have hbl:Below w w (w.alloc (.cells #[bU op,bU n,bV unit,bV name,bW A na c] 47)):=cS _;have HK:=aa (show cN (w.alloc (.cells #[bU op,bU n,bV unit,bV name,bW A na c] 47)) w 47 [bU op,bU n,bV unit,bV name,bW A na c]from heap_alloc_new w _);generalize w.alloc (.cells #[bU op,bU n,bV unit,bV name,bW A na c] 47)=w1 at hbl HK ⊢;have HB:=aa hbl;obtain⟨px,hpx⟩:∃ p,p=w.heap.size:=⟨_,rfl⟩;rw[← hpx]at HK ⊢;clear hbl hpx;by_cases h1:nodes<1;(case pos=>have e1:decide (nodes<1)=true:=aF;go_wp2;exact HP.o (.returned (bU (-1))) _ (DO HB.o));have e1:decide (nodes<1)=false:=aF;by_cases h2:levels<1;(case pos=>have e2:decide (levels<1)=true:=aI;go_wp2;exact HP.o (.returned (bU (-1))) _ (DO HB.o));have e2:decide (levels<1)=false:=aI;go_wp2;go_loopw [7,8,9] (fun s7 s8 s9 wr=>∃ (k:Nat) (m:Int),k≤na∧s8=bU (k:Int)∧s7=bU m∧1≤m∧m≤nodes∧Hid (cN wr px 47 [bU op,bU n,bV unit,bV name,bW A na c])∧Hid (Below w w wr)) (fun _ s8 _ _=>na - (intOf s8).toNat);(case atStart=>exact⟨0,1,aaG _,rfl,rfl,by omega,by omega,HK,HB⟩);clear HK HB;obtain⟨k,m,hk,rfl,rfl,Cr,hm2,HK,HB⟩:=hrel;have x:=HK.o.cell;by_cases hlt:k<na;case pos=>
  obtain⟨bi,oi,cs,JU,_,PF,ey,cM⟩:=(HA.o.get (by have:=HNA.o;omega:k<args.length));subst JU;have hkeep:∀ i v,cs[i]? =some v→b_ wr bi (oi+k*5+i) v:=fun i v h=>(HB.o.cell (p:=bY bi (oi+k*5+i)) PF).trans (cM i v h);have hx:=aan (by have:=HNA.o;omega:k<args.length);generalize hy:args[k]'(by have:=HNA.o;omega)=y at ey hx;clear hy;obtain⟨op2,n2,u2,m2,A2,c2,ar2,hyy,hcs,_⟩:=cH.parts ey;subst hcs;have b0:b_ wr bi (oi+k*5) (bU op2):=hkeep 0 _ rfl;have b1:b_ wr bi (oi+k*5+1) (bU n2):=hkeep 1 _ rfl;have b2:b_ wr bi (oi+k*5+2) (bV u2):=hkeep 2 _ rfl;have b3:b_ wr bi (oi+k*5+3) (bV m2):=hkeep 3 _ rfl;have b4:b_ wr bi (oi+k*5+4) (bW A2 ar2 c2):=hkeep 4 _ rfl;have HE:=aa (ey.keep (cB.cA HB.o));have HX:=aa hx;clear cM hkeep ey hx hyy;go_wp2_with fail;refine(um.o y HX.o _ _ (nodes - m) (levels - 1) (HE.o.mono fun _ _ _=>trivial) af).mono ?_;rintro e w3 ⟨z,rfl,hz,hb3⟩;have eF:=aa (HB.o.trans (hb3.mono HB.o.size));have Bt:=aa (HK.o.bZ hb3 HK.o.lt);clear hb3 HE HX HB HK x b0 b1 b2 b3 b4;rcases hz with rfl|⟨hz1,hz2⟩
  (·go_wp2;exact HP.o (.returned (bU (-1))) _ (DO eF.o));have e3:decide (z<0)=false:=au;go_wp2;go_roundw;exact⟨k+1,m+z,by omega,rfl,rfl,by omega,by omega,Bt,eF⟩;simp[intOf];omega
 go_wp2;exact HP.o (.returned (bU m)) _ ⟨m,rfl,.inr ⟨Cr,hm2⟩,HB.o⟩
theorem KU:∀ (d:Nat) (x:cw),iI x≤d→cE x≤1000000→∀ (cs:List Value) (w:World) (nodes levels:Int),cH w Any cs x→(-1000≤nodes∧nodes≤1000∧-1000≤levels∧levels≤1000)→Calls prog 56 #[.agg cs.toArray,bU nodes,bU levels] w (FR nodes w)
 |d,x,hd,hn,cs,w,nodes,levels,he,hb=>by
  obtain⟨op,n,unit,name,A,c,args,hx,hcs,rZ⟩:=he.parts;subst hcs;rw[hx]at hn hd;have hk:∀ y∈args,cE y≤1000000:=fun y hy=>by
   have:=dP args y hy;unfold cE at hn;omega
  have hlen:args.length≤1000000:=by
   have:=fN args;unfold cE at hn;omega
  refine Q4 op n unit name A c args nodes levels w hlen rZ hb fun y hy cs W nodes levels he hb=>?_;have h1:=PL rfl hy (op:=op) (n:=n) (unit:=unit) (name:=name);cases d with
  |zero=>omega
  |succ d=>exact KU d y af (hk y hy) cs W nodes levels he hb
def o8 (w:World) (e:Ending) (w':World):Prop:=∃ r:Bool,e= .returned (.bool r)∧Below w w w'
theorem DR (x:cw) (cs:List Value) (w:World) (nodes levels:Int) (he:cH w Any cs x) (hn:cE x≤1000000) (hb:-1000≤nodes∧nodes≤1000∧-1000≤levels∧levels≤1000):Calls prog 25 #[.agg cs.toArray,bU nodes,bU levels] w (o8 w):=by
 generalize hP:o8 w=P;have HP:=aa (show ∀ e w',o8 w e w'→P e w' from fun e w' h=>hP▸h);clear hP;have HSZ:=aa (fun W (h:Below w w W)=>KU (iI x) x aac hn cs W nodes levels (he.keep (cB.cA h)) hb);obtain⟨op,n,un,nm,A,c,ar,_,hcs,_⟩:=he.parts;subst hcs;generalize ar.length=na at HSZ ⊢;clear he hb hn;go_enter func25,ntmps25;go_wp2_with fail;refine(HSZ.o _ ((aaf _ w).alloc aac _)).mono ?_;rintro e w3 ⟨z,rfl,hz,hb3⟩;have eF:=aa (((aaf _ w).alloc aac _).trans (hb3.mono ai));clear hb3 hz;go_wp2;exact HP.o (.returned (.bool (decide (0≤z)))) _ ⟨_,rfl,eF.o⟩
def Vq (w:World) (e:Ending) (w':World):Prop:=∃ r:Bool,e= .returned (.bool r)∧w=w'
theorem qP (A:Option Addr) (c:Nat) (xs:List ByteArray) (most:Int) (w:World) (hs:Sq iL w Any A xs) (hl:xs.length≤1000000000):Calls prog 52 #[bW A xs c,bU most] w (Vq w):=by
 generalize hP:Vq w=P;have HP:=aa (show ∀ e w',Vq w e w'→P e w' from fun e w' h=>hP▸h);clear hP;have HS:=aa hs;obtain⟨n,hn⟩:∃ n,n=xs.length:=⟨_,rfl⟩;rw[← hn]at hl ⊢;have HN:=aa hn;clear hs hn;go_enter func52,ntmps52;go_wp2;go_loopw [5] (fun s5 wr=>∃ k:Nat,k≤n∧s5=bU (k:Int)∧Hid (wr=w)) (fun s5 _=>n - (intOf s5).toNat);(case atStart=>exact⟨0,aaG _,rfl,aa rfl⟩);obtain⟨k,hk,rfl,HW⟩:=hrel;have hw:=HW.o;subst hw;clear HW;by_cases hlt:k<n;(case pos=>(have hkx:k<xs.length:=by have:=HN.o;omega);obtain⟨b,o,cs,hA,_,hb,ey,cM⟩:=HS.o.get hkx;subst hA;have hcs:cs=[bV xs[k]]:=ey;subst hcs;(have h0:b_ wr b (o+k) (bV xs[k]):=by have:=cM 0 _ rfl;rw[show iL.k=1 from rfl,Nat.mul_one]at this;exact this);generalize xs[k]=x at h0;clear cM ey;by_cases hm:(k:Int)≤most;(case pos=>by_cases h6:60<x.size;(case pos=>go_wp2;exact HP.o (.returned (.bool false)) _ ⟨false,rfl,rfl⟩);go_wp2;go_roundw;exact⟨k+1,by omega,rfl,aa trivial⟩;simp[intOf];omega);go_wp2;exact HP.o (.returned (.bool (decide ((n:Int)≤most)))) _ ⟨_,rfl,rfl⟩);go_wp2;exact HP.o (.returned (.bool (decide ((n:Int)≤most)))) _ ⟨_,rfl,rfl⟩
theorem AU (x:cw) (cs:List Value) (w:World) (he:cH w Any cs x) (hn:cE x≤1000000):Calls prog 55 #[.agg cs.toArray] w (o8 w):=by
 generalize hP:o8 w=P;have HP:=aa (show ∀ e w',o8 w e w'→P e w' from fun e w' h=>hP▸h);clear hP;have HF:=aa (fun W (h:Below w w W) (n l:Int) (hb:-1000≤n∧n≤1000∧-1000≤l∧l≤1000)=>DR x cs W n l (he.keep (cB.cA h)) hn hb);obtain⟨op,n,un,nm,A,c,ar,_,hcs,_⟩:=he.parts;subst hcs;generalize ar.length=na at HF ⊢;clear he hn;go_enter func55,ntmps55;go_upto_region 1 with fail;have hb:Below w w (w.alloc (.cells #[bU op,bU n,bV un,bV nm,bW A na c] 47)):=cS _;have HK:=aa (show cN (w.alloc (.cells #[bU op,bU n,bV un,bV nm,bW A na c] 47)) w 47 [bU op,bU n,bV un,bV nm,bW A na c]from heap_alloc_new w _);generalize w.alloc (.cells #[bU op,bU n,bV un,bV nm,bW A na c] 47)=w1 at hb HK ⊢;have HB:=aa hb;generalize w.heap.size=p at HK ⊢;clear hb;have x1:=HK.o.cell;go_wp2_with fail;refine(HF.o w1 HB.o 60 12 af).mono ?_;rintro e w2 ⟨r,rfl,hb⟩;have dG:=aa (HB.o.trans (hb.mono HB.o.size));have wC:=aa (HK.o.bZ hb HK.o.lt);have x2:=wC.o.cell;clear hb x1;cases r;(case true=>go_wp2;exact HP.o (.returned (.bool true)) _ ⟨_,rfl,dG.o⟩);go_wp2_with fail;refine(HF.o w2 dG.o 200 20 af).mono ?_;rintro e w3 ⟨r,rfl,hb⟩;have eF:=aa (dG.o.trans (hb.mono dG.o.size));have Bt:=aa (wC.o.bZ hb wC.o.lt);have x3:=Bt.o.cell;clear hb x2;cases r;(case true=>go_wp2;exact HP.o (.returned (.bool false)) _ ⟨_,rfl,eF.o⟩);go_wp2_with fail;refine(HF.o w3 eF.o 260 30 af).mono ?_;rintro e w4 ⟨r,rfl,hb⟩;have gC:=aa (eF.o.trans (hb.mono eF.o.size));clear hb x3;go_wp2;exact HP.o (.returned (.bool r)) _ ⟨_,rfl,gC.o⟩
theorem sq_one (s:ByteArray) (w:World) (e:TypeId):Sq iL (w.alloc (.cells #[bV s] e)) Any (bY w 0) [s]:=by
 refine⟨[[bV s]],rfl,fun _=>⟨w.heap.size,0,rfl,trivial,by simp,fun j c hj i u hu=>by
  (have hj0:j=0:=by have:=(List.getElem?_eq_some_iff.1 hj).1;simpa using this);subst hj0;have hc:[bV s]=c:=(by simpa using hj);subst hc;rw[cell_of_row _ _ _ _ _ _ (heap_alloc_new w _)];simpa using hu⟩,fun j cs x hc hx=>?_⟩
 (have hj0:j=0:=by have:=(List.getElem?_eq_some_iff.1 hc).1;simpa using this);subst hj0;have h1:[bV s]=cs:=(by simpa using hc);have h2:s=x:=(by simpa using hx);subst h1 h2;rfl
theorem str_sq {T B n c:Nat} {w:World} {S:Nat→Prop} {A:Option Addr} {xs:List ByteArray} (h:dO iL T B w S (bW A n c) xs):Sq iL w Any A xs:=(show dO iL T B w Any (bW A n c) xs from h).sq fun _ _ _=>trivial
theorem Sq.DT {α:Type} {R:Rel α} {w:World} {S:Nat→Prop} {A:Option Addr} {xs:List α} {j:Nat} (h:Sq R w S A xs) (g:α→ByteArray) (hj:j<xs.length) (hg:∀ cs x,R.is w S cs x→cs[0]? =some (bV (g x))):∃ b o,A=bY b o∧b_ w b (o+j*R.k) (bV (g xs[j]))∧b<w.heap.size:=by
 obtain⟨b,o,cs,hA,_,hlt,ey,hc⟩:=h.get hj;exact⟨b,o,hA,hc 0 _ (hg cs _ ey),hlt⟩
def AV (p:Nat) (w1:World) (N:Nat) (v:Value) (wr:World):Prop:=∃ xs:List ByteArray,dO iL 9 (p+1) wr (fun _=>False) v xs∧xs.length≤N∧Below (p+1) w1 wr
theorem AV.mono {p N M:Nat} {w1 wr:World} {v:Value} (h:AV p w1 N v wr) (hm:N≤M):AV p w1 M v wr:=by
 obtain⟨xs,h1,h2,h3⟩:=h;exact⟨xs,h1,by omega,h3⟩
theorem AV.more {p N k:Nat} {w1 wr w9:World} {v v':Value} {ls:List ByteArray} {nm:ByteArray} {o:Obj} (hp:p+1≤w1.heap.size) (h:dO iL 9 (p+1) wr (fun _=>False) v ls) (hl:ls.length≤N+k) (hb:Below (p+1) w1 wr) (hg:Grown iL 9 (p+1) (wr.alloc o) (fun _=>False) v (ls++[nm]) w9 v'):AV p w1 (N+(k+1)) v' w9:=
 have ha:=(aaf wr wr).alloc aac o
 ⟨ls++[nm],hg.own,by rw[aao,List.length_singleton];omega,(hb.trans (ha.mono (aaC hp hb.size))).trans (hg.bZ (h.bZ ha) (aaC hp (aaC hb.size ha.size)))⟩
def H8 (w:World) (e:Ending) (w':World):Prop:=∃ A c xs,e= .returned (.slice A xs.length c)∧Sq iL w' Any A xs∧xs.length≤1000000000∧Below w w w'
theorem Q5 (a:j6) (s:cK) (w:World) (hI:eo w Any a s) (hl:(uses s).length≤10000000):Calls prog 53 #[.agg (dU a s).toArray] w (H8 w):=by
 generalize hP:H8 w=P;have HP:=aa (show ∀ e w',H8 w e w'→P e w' from fun e w' h=>hP▸h);clear hP;simp only[uses,gP,iA,aao,aap]at hl;have HI:=aa hI;clear hI;obtain⟨A1,q1,A2,q2,A3,q3,A4,q4,A5,q5,A6,q6,A7,q7,A8,q8⟩:=a;simp only[dU];go_enter func53,ntmps53;go_upto_region 1 with fail;obtain⟨w1,p,hw,hp,K0,fh,HB,iQ,uu⟩:=Ep w (g_ s A1 A2 A3 A4 A5 A6 A7 A8 q1 q2 q3 q4 q5 q6 q7 q8) 31;rw[hw,hp];clear hw hp;go_upto_region 2 with fail;have HN:=aa (show AV p w1 (0+0) (bW (bY w1 0) 0 0) (w1.alloc (.cells #[] 9))from⟨[],dO.empty fh.o _ rfl,aaG _,(aaf _ _).alloc fh.o _⟩);generalize w1.alloc (.cells #[] 9)=w2 at HN ⊢;generalize w1.heap.size=b0 at HN ⊢;obtain⟨_,_,_,hb2⟩:=HN.o;have x:=(K0.o.bZ hb2 af).cell;clear hb2;go_wp2;go_loopw [3,4] (fun v u wr=>∃ k:Nat,k≤s.imports.length∧u=bU (k:Int)∧Hid (AV p w1 (0+k) v wr)) (fun _ u _=>s.imports.length - (intOf u).toNat);(case atStart=>exact⟨0,aaG _,rfl,HN⟩);clear HN x;obtain⟨k,hk,rfl,HN⟩:=hrel;obtain⟨ls,h,hl,hb⟩:=HN.o;have HO:=aa h;have HB:=aa hb;clear h hb;have x:=(K0.o.bZ HB.o af).cell;by_cases hlt:k<s.imports.length;(case pos=>obtain⟨b,o,hA,hc,_⟩:=(HI.o.imports.bZ (iQ.o _ HB.o)).DT (·.name) hlt (fun cs x e=>by rw[show cs=_ from e];rfl);subst hA;have hc:b_ wr b (o+k*6) (bV s.imports[k].name):=hc;generalize s.imports[k].name=nm at hc;go_wp2_with (at_builtin;refine dz (R:=iL) (S:=fun _=>False) (xs:=ls) (ys:=[nm]) (T:=9) (t:=120) (B:=p+1) rfl (.tmp 19) (.tmp 26) 120 rfl rfl uY (HO.o.bZ (cS _)) rfl _ 1 1 rfl rfl (qQ.iM (R:=iL) (cs:=[_]) rfl _ rfl) af aL rfl (n:=ls.length+1) rfl ?_);intro A9 c9 w9 Ba HG;have Bj:=aa (AV.more fh.o HO.o hl HB.o HG.o);clear HG HO HB HN x hc;go_wp2;go_roundw;exact⟨k+1,by omega,rfl,Bj⟩;simp[intOf];omega);case neg=>
  replace HN:=aa (show AV p w1 (10000000+0) _ _ from HN.o.mono af)
  clear HO HB
  go_wp2_with fail
  go_loopw [3,5] (fun v u wr=>∃ k:Nat,k≤s.inputs.length∧u=bU (k:Int)∧Hid (AV p w1 (10000000+k) v wr)) (fun _ u _=>s.inputs.length - (intOf u).toNat)
  case atStart=>exact⟨0,aaG _,rfl,HN⟩
  case round=>
   clear HN x;obtain⟨k,hk,rfl,HN⟩:=hrel;obtain⟨ls,h,hl,hb⟩:=HN.o;have HO:=aa h;have HB:=aa hb;clear h hb;have x:=(K0.o.bZ HB.o af).cell;by_cases hlt:k<s.inputs.length;(case pos=>obtain⟨b,o,hA,hc,_⟩:=(HI.o.inputs.bZ (iQ.o _ HB.o)).DT (·.name) hlt (fun cs x e=>by rw[show cs=_ from e];rfl);subst hA;have hc:b_ wr b (o+k*3) (bV s.inputs[k].name):=hc;generalize s.inputs[k].name=nm at hc;go_wp2_with (at_builtin;refine dz (R:=iL) (S:=fun _=>False) (xs:=ls) (ys:=[nm]) (T:=9) (t:=120) (B:=p+1) rfl (.tmp 35) (.tmp 42) 120 rfl rfl uY (HO.o.bZ (cS _)) rfl _ 1 1 rfl rfl (qQ.iM (R:=iL) (cs:=[_]) rfl _ rfl) af aL rfl (n:=ls.length+1) rfl ?_);intro A9 c9 w9 Ba HG;have Bj:=aa (AV.more fh.o HO.o hl HB.o HG.o);clear HG HO HB HN x hc;go_wp2;go_roundw;exact⟨k+1,by omega,rfl,Bj⟩;simp[intOf];omega);case neg=>
    replace HN:=aa (show AV p w1 (20000000+0) _ _ from HN.o.mono af)
    clear HO HB
    go_wp2_with fail
    go_loopw [3,6] (fun v u wr=>∃ k:Nat,k≤s.tables.length∧u=bU (k:Int)∧Hid (AV p w1 (20000000+k) v wr)) (fun _ u _=>s.tables.length - (intOf u).toNat)
    case atStart=>exact⟨0,aaG _,rfl,HN⟩
    case round=>
     clear HN x;obtain⟨k,hk,rfl,HN⟩:=hrel;obtain⟨ls,h,hl,hb⟩:=HN.o;have HO:=aa h;have HB:=aa hb;clear h hb;have x:=(K0.o.bZ HB.o af).cell;by_cases hlt:k<s.tables.length;(case pos=>obtain⟨b,o,hA,hc,_⟩:=(HI.o.tables.bZ (iQ.o _ HB.o)).DT (·.name) hlt (fun cs x e=>by obtain⟨A,c,e,_⟩:=e;rw[e];rfl);subst hA;have hc:b_ wr b (o+k*3) (bV s.tables[k].name):=hc;generalize s.tables[k].name=nm at hc;go_wp2_with (at_builtin;refine dz (R:=iL) (S:=fun _=>False) (xs:=ls) (ys:=[nm]) (T:=9) (t:=120) (B:=p+1) rfl (.tmp 51) (.tmp 58) 120 rfl rfl uY (HO.o.bZ (cS _)) rfl _ 1 1 rfl rfl (qQ.iM (R:=iL) (cs:=[_]) rfl _ rfl) af aL rfl (n:=ls.length+1) rfl ?_);intro A9 c9 w9 Ba HG;have Bj:=aa (AV.more fh.o HO.o hl HB.o HG.o);clear HG HO HB HN x hc;go_wp2;go_roundw;exact⟨k+1,by omega,rfl,Bj⟩;simp[intOf];omega);case neg=>
      replace HN:=aa (show AV p w1 (30000000+0) _ _ from HN.o.mono af)
      clear HO HB
      go_wp2_with fail
      go_loopw [3,7] (fun v u wr=>∃ k:Nat,k≤s.funcs.length∧u=bU (k:Int)∧Hid (AV p w1 (30000000+k) v wr)) (fun _ u _=>s.funcs.length - (intOf u).toNat)
      case atStart=>exact⟨0,aaG _,rfl,HN⟩
      case round=>
       clear HN x;obtain⟨k,hk,rfl,HN⟩:=hrel;obtain⟨ls,h,hl,hb⟩:=HN.o;have HO:=aa h;have HB:=aa hb;clear h hb;have x:=(K0.o.bZ HB.o af).cell;by_cases hlt:k<s.funcs.length;(case pos=>obtain⟨b,o,hA,hc,_⟩:=(HI.o.funcs.bZ (iQ.o _ HB.o)).DT (·.name) hlt (fun cs x e=>by obtain⟨A,c,es,e,_⟩:=e;rw[e];rfl);subst hA;have hc:b_ wr b (o+k*7) (bV s.funcs[k].name):=hc;generalize s.funcs[k].name=nm at hc;go_wp2_with (at_builtin;refine dz (R:=iL) (S:=fun _=>False) (xs:=ls) (ys:=[nm]) (T:=9) (t:=120) (B:=p+1) rfl (.tmp 67) (.tmp 74) 120 rfl rfl uY (HO.o.bZ (cS _)) rfl _ 1 1 rfl rfl (qQ.iM (R:=iL) (cs:=[_]) rfl _ rfl) af aL rfl (n:=ls.length+1) rfl ?_);intro A9 c9 w9 Ba HG;have Bj:=aa (AV.more fh.o HO.o hl HB.o HG.o);clear HG HO HB HN x hc;go_wp2;go_roundw;exact⟨k+1,by omega,rfl,Bj⟩;simp[intOf];omega);case neg=>
        replace HN:=aa (show AV p w1 (40000000+0) _ _ from HN.o.mono af)
        clear HO HB
        go_wp2_with fail
        go_loopw [3,8] (fun v u wr=>∃ k:Nat,k≤s.cells.length∧u=bU (k:Int)∧Hid (AV p w1 (40000000+k) v wr)) (fun _ u _=>s.cells.length - (intOf u).toNat)
        case atStart=>exact⟨0,aaG _,rfl,HN⟩
        case round=>
         clear HN x;obtain⟨k,hk,rfl,HN⟩:=hrel;obtain⟨ls,h,hl,hb⟩:=HN.o;have HO:=aa h;have HB:=aa hb;clear h hb;have x:=(K0.o.bZ HB.o af).cell;by_cases hlt:k<s.cells.length;(case pos=>obtain⟨b,o,hA,hc,_⟩:=(HI.o.cells.bZ (iQ.o _ HB.o)).DT (·.name) hlt (fun cs x e=>by obtain⟨es,e,_⟩:=e;rw[e];rfl);subst hA;have hc:b_ wr b (o+k*7) (bV s.cells[k].name):=hc;generalize s.cells[k].name=nm at hc;go_wp2_with (at_builtin;refine dz (R:=iL) (S:=fun _=>False) (xs:=ls) (ys:=[nm]) (T:=9) (t:=120) (B:=p+1) rfl (.tmp 83) (.tmp 90) 120 rfl rfl uY (HO.o.bZ (cS _)) rfl _ 1 1 rfl rfl (qQ.iM (R:=iL) (cs:=[_]) rfl _ rfl) af aL rfl (n:=ls.length+1) rfl ?_);intro A9 c9 w9 Ba HG;have Bj:=aa (AV.more fh.o HO.o hl HB.o HG.o);clear HG HO HB HN x hc;go_wp2;go_roundw;exact⟨k+1,by omega,rfl,Bj⟩;simp[intOf];omega);case neg=>
          replace HN:=aa (show AV p w1 (50000000+0) _ _ from HN.o.mono af)
          clear HO HB
          go_wp2_with fail
          go_loopw [3,9] (fun v u wr=>∃ k:Nat,k≤s.ei.length∧u=bU (k:Int)∧Hid (AV p w1 (50000000+k) v wr)) (fun _ u _=>s.ei.length - (intOf u).toNat)
          case atStart=>exact⟨0,aaG _,rfl,HN⟩
          case round=>
           clear HN x;obtain⟨k,hk,rfl,HN⟩:=hrel;obtain⟨ls,h,hl,hb⟩:=HN.o;have HO:=aa h;have HB:=aa hb;clear h hb;have x:=(K0.o.bZ HB.o af).cell;by_cases hlt:k<s.ei.length;(case pos=>obtain⟨b,o,hA,hc,_⟩:=(HI.o.ei.bZ (iQ.o _ HB.o)).DT (·.name) hlt (fun cs x e=>by rw[show cs=_ from e];rfl);subst hA;have hc:b_ wr b (o+k*3) (bV s.ei[k].name):=hc;generalize s.ei[k].name=nm at hc;go_wp2_with (at_builtin;refine dz (R:=iL) (S:=fun _=>False) (xs:=ls) (ys:=[nm]) (T:=9) (t:=120) (B:=p+1) rfl (.tmp 99) (.tmp 106) 120 rfl rfl uY (HO.o.bZ (cS _)) rfl _ 1 1 rfl rfl (qQ.iM (R:=iL) (cs:=[_]) rfl _ rfl) af aL rfl (n:=ls.length+1) rfl ?_);intro A9 c9 w9 Ba HG;have Bj:=aa (AV.more fh.o HO.o hl HB.o HG.o);clear HG HO HB HN x hc;go_wp2;go_roundw;exact⟨k+1,by omega,rfl,Bj⟩;simp[intOf];omega);case neg=>
            replace HN:=aa (show AV p w1 (60000000+0) _ _ from HN.o.mono af)
            clear HO HB
            go_wp2_with fail
            go_loopw [3,10] (fun v u wr=>∃ k:Nat,k≤s.stores.length∧u=bU (k:Int)∧Hid (AV p w1 (60000000+k) v wr)) (fun _ u _=>s.stores.length - (intOf u).toNat)
            case atStart=>exact⟨0,aaG _,rfl,HN⟩
            case round=>
             clear HN x;obtain⟨k,hk,rfl,HN⟩:=hrel;obtain⟨ls,h,hl,hb⟩:=HN.o;have HO:=aa h;have HB:=aa hb;clear h hb;have x:=(K0.o.bZ HB.o af).cell;by_cases hlt:k<s.stores.length;(case pos=>obtain⟨b,o,hA,hc,_⟩:=(HI.o.stores.bZ (iQ.o _ HB.o)).DT (·.name) hlt (fun cs x e=>by rw[show cs=_ from e];rfl);subst hA;have hc:b_ wr b (o+k*3) (bV s.stores[k].name):=hc;generalize s.stores[k].name=nm at hc;go_wp2_with (at_builtin;refine dz (R:=iL) (S:=fun _=>False) (xs:=ls) (ys:=[nm]) (T:=9) (t:=120) (B:=p+1) rfl (.tmp 115) (.tmp 122) 120 rfl rfl uY (HO.o.bZ (cS _)) rfl _ 1 1 rfl rfl (qQ.iM (R:=iL) (cs:=[_]) rfl _ rfl) af aL rfl (n:=ls.length+1) rfl ?_);intro A9 c9 w9 Ba HG;have Bj:=aa (AV.more fh.o HO.o hl HB.o HG.o);clear HG HO HB HN x hc;go_wp2;go_roundw;exact⟨k+1,by omega,rfl,Bj⟩;simp[intOf];omega);clear HO HB;obtain⟨xs,h,hl,hb⟩:=HN.o;obtain⟨A9,c9,hv,_⟩:=h.slice;subst hv;go_wp2;exact HP.o (.returned (bW A9 xs c9)) _ ⟨A9,c9,xs,rfl,str_sq h,by omega,iQ.o _ hb⟩
theorem H9 (A:Option Addr) (c:Nat) (xs:List pF) (w:World) (hs:Sq sA w Any A xs) (hl:xs.length≤1000000000) (hq:∀ y∈xs,y.inp.length≤1000000000∧y.o.length≤1000000000∧y.cells.length≤1000000000):Calls prog 54 #[bW A xs c] w (o8 w):=by
 generalize hP:o8 w=P;have HP:=aa (show ∀ e w',o8 w e w'→P e w' from fun e w' h=>hP▸h);clear hP;have HS:=aa hs;have HQ:=aa hq;obtain⟨n,hn⟩:∃ n,n=xs.length:=⟨_,rfl⟩;rw[← hn]at hl ⊢;have HN:=aa hn;clear hs hq hn;have HB:=aa (aaf w w);go_enter func54,ntmps54;go_wp2;go_loopw [3,4] (fun s3 s4 wr=>∃ k:Nat,k≤n∧s3=bU (k:Int)∧Hid (Below w w wr)) (fun s3 _ _=>n - (intOf s3).toNat);(case atStart=>exact⟨0,aaG _,rfl,HB⟩);clear HB;obtain⟨k,hk,rfl,HB⟩:=hrel;by_cases hlt:k<n;(case neg=>go_wp2_with fail;(all_goals exact HP.o (.returned (.bool _)) _ ⟨_,rfl,HB.o⟩));by_cases hm:(k:Int)≤102;(case neg=>go_wp2_with fail;(all_goals exact HP.o (.returned (.bool _)) _ ⟨_,rfl,HB.o⟩));(have hkx:k<xs.length:=by have:=HN.o;omega);obtain⟨b,o,cs,hA,_,hb,⟨B1,d1,B2,d2,B3,d3,hcs,s1,s2,s3⟩,cM⟩:=HS.o.get hkx;subst hA;have hyq:=HQ.o _ (aan hkx);generalize hy:xs[k]=y at hcs s1 s2 s3 hyq;subst hcs;have y0:b_ wr b (o+k*6) (bU y.kind):=(HB.o.cell (p:=bY b (o+k*6)) hb).trans (cM 0 _ rfl);have y1:b_ wr b (o+k*6+1) (bW B1 y.inp d1):=(HB.o.cell (p:=bY b (o+k*6+1)) hb).trans (cM 1 _ rfl);have y2:b_ wr b (o+k*6+2) (bW B2 y.o d2):=(HB.o.cell (p:=bY b (o+k*6+2)) hb).trans (cM 2 _ rfl);have y3:b_ wr b (o+k*6+3) (bV y.name):=(HB.o.cell (p:=bY b (o+k*6+3)) hb).trans (cM 3 _ rfl);have y4:b_ wr b (o+k*6+4) (bW B3 y.cells d3):=(HB.o.cell (p:=bY b (o+k*6+4)) hb).trans (cM 4 _ rfl);have y5:b_ wr b (o+k*6+5) (bU y.amount):=(HB.o.cell (p:=bY b (o+k*6+5)) hb).trans (cM 5 _ rfl);have HYQ:=aa hyq;clear cM hyq;go_upto_region 5 with fail;have ew:Below wr wr (wr.alloc (.cells #[bU y.kind,bW B1 y.inp d1,bW B2 y.o d2,bV y.name,bW B3 y.cells d3,bU y.amount] 150)):=cS _;have HX:=aa (show cN (wr.alloc (.cells #[bU y.kind,bW B1 y.inp d1,bW B2 y.o d2,bV y.name,bW B3 y.cells d3,bU y.amount] 150)) wr 150 [bU y.kind,bW B1 y.inp d1,bW B2 y.o d2,bV y.name,bW B3 y.cells d3,bU y.amount]from heap_alloc_new wr _);have dF:=aa (HB.o.trans (ew.mono HB.o.size));have DU:=aa ((s1.mono (S':=fun b=>b<w.heap.size) fun b hb _=>hb).bZ dF.o);have ux:=aa ((s2.mono (S':=fun b=>b<w.heap.size) fun b hb _=>hb).bZ dF.o);have CP:=aa ((s3.mono (S':=fun b=>b<w.heap.size) fun b hb _=>hb).bZ dF.o);generalize wr.alloc (.cells #[bU y.kind,bW B1 y.inp d1,bW B2 y.o d2,bV y.name,bW B3 y.cells d3,bU y.amount] 150)=w5 at HX dF DU ux CP ⊢;generalize wr.heap.size=ps at HX ⊢;clear ew s1 s2 s3 HB hy y0 y1 y2 y3 y4 y5;have xx:=HX.o.cell;go_wp2_with fail;refine(qP B1 d1 y.inp 102 w5 (DU.o.mono fun _ _ _=>trivial) HYQ.o.1).mono ?_;rintro e w6 ⟨r,rfl,rfl⟩;cases r;(case false=>go_wp2;exact HP.o (.returned (.bool false)) _ ⟨_,rfl,dF.o⟩);go_wp2_with fail;refine(qP B2 d2 y.o 102 w5 (ux.o.mono fun _ _ _=>trivial) HYQ.o.2.1).mono ?_;rintro e w6 ⟨r,rfl,rfl⟩;cases r;(case false=>go_wp2;exact HP.o (.returned (.bool false)) _ ⟨_,rfl,dF.o⟩);go_wp2_with fail;refine(qP B3 d3 y.cells 102 w5 (CP.o.mono fun _ _ _=>trivial) HYQ.o.2.2).mono ?_;rintro e w6 ⟨r,rfl,rfl⟩;cases r;(case false=>go_wp2;exact HP.o (.returned (.bool false)) _ ⟨_,rfl,dF.o⟩);go_wp2_with fail;refine(qP (bY w5 0) 1 [y.name] 1 (w5.alloc (.cells #[bV y.name] 9)) (sq_one _ _ _) ai).mono ?_;rintro e w6 ⟨r,rfl,rfl⟩;have eA:=aa (dF.o.alloc dF.o.size (.cells #[bV y.name] 9));generalize w5.alloc (.cells #[bV y.name] 9)=w6 at eA ⊢;cases r;(case false=>go_wp2;exact HP.o (.returned (.bool false)) _ ⟨_,rfl,eA.o⟩);go_wp2;go_roundw;exact⟨k+1,by omega,rfl,eA⟩;simp[intOf];omega
theorem Q6 (a:j6) (s:cK) (w:World) (hI:eo w Any a s) (hl:Lit s):Calls prog 24 #[.agg (dU a s).toArray] w (o8 w):=by
 have HI:=aa hI;have HL:=aa hl;clear hI hl;obtain⟨A1,q1,A2,q2,A3,q3,A4,q4,A5,q5,A6,q6,A7,q7,A8,q8⟩:=a;simp only[dU];have HNM:=aa (show ∀ W,Below w w W→Calls prog 53 #[.agg (g_ s A1 A2 A3 A4 A5 A6 A7 A8 q1 q2 q3 q4 q5 q6 q7 q8)] W (H8 W)from fun W h=>Q5 ⟨A1,q1,A2,q2,A3,q3,A4,q4,A5,q5,A6,q6,A7,q7,A8,q8⟩ s W (HI.o.bZ h) HL.o.uses);generalize hP:o8 w=P;have HP:=aa (show ∀ e w',o8 w e w'→P e w' from fun e w' h=>hP▸h);clear hP;go_enter func24,ntmps24;go_upto_region 1 with fail;have hb:Below w w (w.alloc (.cells (g_ s A1 A2 A3 A4 A5 A6 A7 A8 q1 q2 q3 q4 q5 q6 q7 q8) 31)):=cS _;have HK:=aa (show cN (w.alloc (.cells (g_ s A1 A2 A3 A4 A5 A6 A7 A8 q1 q2 q3 q4 q5 q6 q7 q8) 31)) w 31 (g_ s A1 A2 A3 A4 A5 A6 A7 A8 q1 q2 q3 q4 q5 q6 q7 q8)from heap_alloc_new w _);generalize w.alloc (.cells (g_ s A1 A2 A3 A4 A5 A6 A7 A8 q1 q2 q3 q4 q5 q6 q7 q8) 31)=w1 at hb HK ⊢;have HB:=aa hb;obtain⟨p,hp⟩:∃ p,p=w.heap.size:=⟨_,rfl⟩;have Zb:=aa hp;rw[← hp]at HK ⊢;clear hb hp;have x1:=HK.o.cell;go_wp2_with fail;refine(HNM.o w1 HB.o).mono ?_;rintro e w2 ⟨A9,c9,nl,rfl,hs9,RY,hb⟩;have MW:=aa hs9;have dG:=aa (HB.o.trans (hb.mono HB.o.size));have wC:=aa (HK.o.bZ hb HK.o.lt);clear x1 HB HK hb hs9;have HB:=dG;have HK:=wC;clear dG wC;have Yd:=aa RY;clear RY;have x1:=HK.o.cell;go_wp2_with fail;refine(qP A9 c9 nl 105 w2 MW.o Yd.o).mono ?_;rintro e w3 ⟨r,rfl,rfl⟩;cases r;(case false=>go_wp2;exact HP.o (.returned (.bool false)) _ ⟨_,rfl,HB.o⟩);clear MW Yd;by_cases h8:8<s.cI.length;(case pos=>go_wp2;exact HP.o (.returned (.bool false)) _ ⟨_,rfl,HB.o⟩);by_cases h60:60<s.name.size;(case pos=>go_wp2;exact HP.o (.returned (.bool false)) _ ⟨_,rfl,HB.o⟩);obtain⟨n8,hn8⟩:∃ n,n=s.cI.length:=⟨_,rfl⟩;have HN8:=aa hn8;(have o_:n8≤10000000:=by have:=HL.o.ID;omega);clear hn8;obtain⟨n3,hn3⟩:∃ n,n=s.tables.length:=⟨_,rfl⟩;have AE:=aa hn3;(have hb3:n3≤10000000:=by have:=HL.o.Wh;omega);clear hn3;obtain⟨n4,hn4⟩:∃ n,n=s.funcs.length:=⟨_,rfl⟩;have HN4:=aa hn4;(have hb4:n4≤10000000:=by have:=HL.o.Zj;omega);clear hn4;obtain⟨n5,hn5⟩:∃ n,n=s.cells.length:=⟨_,rfl⟩;have HN5:=aa hn5;(have ew:n5≤10000000:=by have:=HL.o.Zk;omega);clear hn5;go_wp2_with fail;clear x1 h8 h60;go_loopw [3] (fun v wr=>∃ k:Nat,k≤n8∧v=bU (k:Int)∧Hid (cN wr p 31 (g_ s A1 A2 A3 A4 A5 A6 A7 A8 q1 q2 q3 q4 q5 q6 q7 q8))∧Hid (Below w w wr)) (fun v _=>n8 - (intOf v).toNat);(case atStart=>exact⟨0,aaG _,rfl,HK,HB⟩);clear HK HB;obtain⟨k,hk,rfl,HK,HB⟩:=hrel;have xk:=HK.o.cell;have x:b_ wr p 8 (.slice A8 n8 q8):=(by rw[xk,HN8.o];rfl);clear xk;by_cases hlt:k<n8;(case pos=>obtain⟨b,o,cs,hA,_,hbl,⟨B,d,hcs,hst⟩,cM⟩:=HI.o.cI.get (by have:=HN8.o;omega:k<s.cI.length);dsimp only at hA;rw[hA]at x;have HA:=aa hA;clear hA;have HM:=aa (aan (by have:=HN8.o;omega:k<s.cI.length));generalize s.cI[k]'(by have:=HN8.o;omega)=y at HM hcs hst;subst hcs;have HC:=aa (fun W (h:Below w w W) i v hv=>(h.cell (p:=⟨b,o+k*2+i,none⟩) hbl).trans (cM i v hv));clear cM hbl;have y0:b_ wr b (o+k*2) (.string y.kind):=HC.o wr HB.o 0 _ rfl;have y1:b_ wr b (o+k*2+1) (.slice B y.steps.length d):=HC.o wr HB.o 1 _ rfl;have HY:=aa (HL.o.cI y HM.o);have HST:=aa (hst.bZ HB.o);clear hst;go_wp2_with fail;refine(H9 B d y.steps wr HST.o HY.o.1 HY.o.2).mono ?_;rintro e w5 ⟨r,rfl,hb⟩;have dF:=aa (HB.o.trans (hb.mono HB.o.size));have Ic:=aa (HK.o.bZ hb HK.o.lt);clear hb HB HK;have HB:=dF;have HK:=Ic;clear dF Ic;cases r;(case false=>go_wp2;exact HP.o (.returned (.bool false)) _ ⟨_,rfl,HB.o⟩);clear x y0 y1 HST;have xk:=HK.o.cell;have x:b_ w5 p 8 (.slice A8 n8 q8):=(by rw[xk,HN8.o];rfl);clear xk;rw[HA.o]at x;have y0:b_ w5 b (o+k*2) (.string y.kind):=HC.o w5 HB.o 0 _ rfl;have y1:b_ w5 b (o+k*2+1) (.slice B y.steps.length d):=HC.o w5 HB.o 1 _ rfl;by_cases h60:60<y.kind.size;(case pos=>go_wp2;exact HP.o (.returned (.bool false)) _ ⟨_,rfl,HB.o⟩);go_wp2;go_roundw;exact⟨k+1,by omega,rfl,HK,HB⟩;simp[intOf];omega);go_wp2_with fail;clear x hlt hk;go_loopw [4] (fun v wr=>∃ k:Nat,k≤n3∧v=bU (k:Int)∧Hid (cN wr p 31 (g_ s A1 A2 A3 A4 A5 A6 A7 A8 q1 q2 q3 q4 q5 q6 q7 q8))∧Hid (Below w w wr)) (fun v _=>n3 - (intOf v).toNat);(case atStart=>exact⟨0,aaG _,rfl,HK,HB⟩);clear HK HB;obtain⟨k,hk,rfl,HK,HB⟩:=hrel;have xk:=HK.o.cell;have x:b_ wr p 3 (.slice A3 n3 q3):=(by rw[xk,AE.o];rfl);clear xk;by_cases hlt:k<n3;(case pos=>obtain⟨b,o,cs,hA,_,hbl,⟨B,d,hcs,hst⟩,cM⟩:=HI.o.tables.get (by have:=AE.o;omega:k<s.tables.length);dsimp only at hA;rw[hA]at x;have HA:=aa hA;clear hA;have HM:=aa (aan (by have:=AE.o;omega:k<s.tables.length));generalize s.tables[k]'(by have:=AE.o;omega)=y at HM hcs hst;subst hcs;have HC:=aa (fun W (h:Below w w W) i v hv=>(h.cell (p:=⟨b,o+k*3+i,none⟩) hbl).trans (cM i v hv));clear cM hbl;have y1:b_ wr b (o+k*3+1) (.string y.unit):=HC.o wr HB.o 1 _ rfl;have y2:b_ wr b (o+k*3+2) (.slice B y.rows.length d):=HC.o wr HB.o 2 _ rfl;clear hst;by_cases h8:110<y.rows.length;(case pos=>go_wp2;exact HP.o (.returned (.bool false)) _ ⟨_,rfl,HB.o⟩);by_cases h60:60<y.unit.size;(case pos=>go_wp2;exact HP.o (.returned (.bool false)) _ ⟨_,rfl,HB.o⟩);go_wp2;go_roundw;exact⟨k+1,by omega,rfl,HK,HB⟩;simp[intOf];omega);go_wp2_with fail;clear x hlt hk;go_loopw [5] (fun v wr=>∃ k:Nat,k≤n4∧v=bU (k:Int)∧Hid (cN wr p 31 (g_ s A1 A2 A3 A4 A5 A6 A7 A8 q1 q2 q3 q4 q5 q6 q7 q8))∧Hid (Below w w wr)) (fun v _=>n4 - (intOf v).toNat);(case atStart=>exact⟨0,aaG _,rfl,HK,HB⟩);clear HK HB;obtain⟨k,hk,rfl,HK,HB⟩:=hrel;have xk:=HK.o.cell;have x:b_ wr p 4 (.slice A4 n4 q4):=(by rw[xk,HN4.o];rfl);clear xk;by_cases hlt:k<n4;(case pos=>obtain⟨b,o,cs,hA,_,hbl,⟨B,d,es,hcs,hpr,he⟩,cM⟩:=HI.o.funcs.get (by have:=HN4.o;omega:k<s.funcs.length);dsimp only at hA;rw[hA]at x;have HA:=aa hA;clear hA;have HM:=aa (aan (by have:=HN4.o;omega:k<s.funcs.length));generalize s.funcs[k]'(by have:=HN4.o;omega)=y at HM hcs hpr he;subst hcs;obtain⟨op,nn,un,nm,Ae,ce,ar,_,hes,_⟩:=he.parts;subst hes;have HE:=aa (fun W (h:Below w w W)=>AU y.body _ W (he.keep (cB.cA h)) (HL.o.funcs y HM.o).1);have HPR:=aa hpr;have HFN:=aa (HL.o.funcs y HM.o).2;clear he hpr;have HC:=aa (fun W (h:Below w w W) i v hv=>(h.cell (p:=⟨b,o+k*7+i,none⟩) hbl).trans (cM i v hv));clear cM hbl;have y1:b_ wr b (o+k*7+1) (.slice B y.params.length d):=HC.o wr HB.o 1 _ rfl;have y2:b_ wr b (o+k*7+2) (bU op):=HC.o wr HB.o 2 _ rfl;have y3:b_ wr b (o+k*7+3) (bU nn):=HC.o wr HB.o 3 _ rfl;have y4:b_ wr b (o+k*7+4) (.string un):=HC.o wr HB.o 4 _ rfl;have y5:b_ wr b (o+k*7+5) (.string nm):=HC.o wr HB.o 5 _ rfl;have y6:b_ wr b (o+k*7+6) (.slice Ae ar.length ce):=HC.o wr HB.o 6 _ rfl;by_cases h8:8<y.params.length;(case pos=>go_wp2;exact HP.o (.returned (.bool false)) _ ⟨_,rfl,HB.o⟩);go_wp2_with fail;refine(HE.o wr HB.o).mono ?_;rintro e w5 ⟨r,rfl,hb⟩;have dF:=aa (HB.o.trans (hb.mono HB.o.size));have Ic:=aa (HK.o.bZ hb HK.o.lt);clear hb HB HK;have HB:=dF;have HK:=Ic;clear dF Ic;cases r;(case false=>go_wp2;exact HP.o (.returned (.bool false)) _ ⟨_,rfl,HB.o⟩);clear x h8 HE y1 y2 y3 y4 y5 y6;have xk:=HK.o.cell;have x:b_ w5 p 4 (.slice A4 n4 q4):=(by rw[xk,HN4.o];rfl);clear xk;rw[HA.o]at x;go_wp2_with fail;clear x;have HNP:=aa (show y.params.length≤1000000000 from HFN.o);clear HFN;go_loopw [6] (fun v wr=>∃ j:Nat,j≤y.params.length∧v=bU (j:Int)∧Hid (cN wr p 31 (g_ s A1 A2 A3 A4 A5 A6 A7 A8 q1 q2 q3 q4 q5 q6 q7 q8))∧Hid (Below w w wr)) (fun v _=>y.params.length - (intOf v).toNat);(case atStart=>exact⟨0,aaG _,rfl,HK,HB⟩);clear HK HB;obtain⟨j,hj,rfl,HK,HB⟩:=hrel;have xk:=HK.o.cell;have x:b_ wr p 4 (.slice A4 n4 q4):=(by rw[xk,HN4.o];rfl);clear xk;rw[HA.o]at x;have y1:b_ wr b (o+k*7+1) (.slice B y.params.length d):=HC.o wr HB.o 1 _ rfl;by_cases hlj:j<y.params.length;have hnp:=HNP.o;(case pos=>obtain⟨bp,XT,cp,hA,_,hbl,hcp,cM⟩:=HPR.o.get hlj;subst hA;generalize y.params[j]=z at hcp;have hcp9:cp=[.string z.name,.string z.unit]:=hcp;subst hcp9;clear hcp;have VO:=aa (fun W (h:Below w w W) i v hv=>(h.cell (p:=⟨bp,XT+j*2+i,none⟩) hbl).trans (cM i v hv));clear cM hbl;have z0:b_ wr bp (XT+j*2) (.string z.name):=VO.o wr HB.o 0 _ rfl;have z1:b_ wr bp (XT+j*2+1) (.string z.unit):=VO.o wr HB.o 1 _ rfl;by_cases h61:60<z.name.size;(case pos=>go_wp2;exact HP.o (.returned (.bool false)) _ ⟨_,rfl,HB.o⟩);by_cases h60:60<z.unit.size;(case pos=>go_wp2;exact HP.o (.returned (.bool false)) _ ⟨_,rfl,HB.o⟩);go_wp2;go_roundw;exact⟨j+1,by omega,rfl,HK,HB⟩;simp[intOf];omega);go_wp2;go_roundw;exact⟨k+1,by omega,rfl,HK,HB⟩;simp[intOf];omega);go_wp2_with fail;clear x hlt hk;go_loopw [7] (fun v wr=>∃ k:Nat,k≤n5∧v=bU (k:Int)∧Hid (cN wr p 31 (g_ s A1 A2 A3 A4 A5 A6 A7 A8 q1 q2 q3 q4 q5 q6 q7 q8))∧Hid (Below w w wr)) (fun v _=>n5 - (intOf v).toNat);(case atStart=>exact⟨0,aaG _,rfl,HK,HB⟩);clear HK HB;obtain⟨k,hk,rfl,HK,HB⟩:=hrel;have xk:=HK.o.cell;have x:b_ wr p 5 (.slice A5 n5 q5):=(by rw[xk,HN5.o];rfl);clear xk;by_cases hlt:k<n5;(case pos=>obtain⟨b,o,cs,hA,_,hbl,⟨es,hcs,he⟩,cM⟩:=HI.o.cells.get (by have:=HN5.o;omega:k<s.cells.length);dsimp only at hA;rw[hA]at x;have HA:=aa hA;clear hA;have HM:=aa (aan (by have:=HN5.o;omega:k<s.cells.length));generalize s.cells[k]'(by have:=HN5.o;omega)=y at HM hcs he;subst hcs;obtain⟨op,nn,un,nm,Ae,ce,ar,_,hes,_⟩:=he.parts;subst hes;have HE:=aa (fun W (h:Below w w W)=>AU y.kY _ W (he.keep (cB.cA h)) (HL.o.cells y HM.o));clear he;have HC:=aa (fun W (h:Below w w W) i v hv=>(h.cell (p:=⟨b,o+k*7+i,none⟩) hbl).trans (cM i v hv));clear cM hbl;have y1:b_ wr b (o+k*7+1) (.string y.unit):=HC.o wr HB.o 1 _ rfl;have y2:b_ wr b (o+k*7+2) (bU op):=HC.o wr HB.o 2 _ rfl;have y3:b_ wr b (o+k*7+3) (bU nn):=HC.o wr HB.o 3 _ rfl;have y4:b_ wr b (o+k*7+4) (.string un):=HC.o wr HB.o 4 _ rfl;have y5:b_ wr b (o+k*7+5) (.string nm):=HC.o wr HB.o 5 _ rfl;have y6:b_ wr b (o+k*7+6) (.slice Ae ar.length ce):=HC.o wr HB.o 6 _ rfl;by_cases h60:60<y.unit.size;(case pos=>go_wp2;exact HP.o (.returned (.bool false)) _ ⟨_,rfl,HB.o⟩);go_wp2_with fail;refine(HE.o wr HB.o).mono ?_;rintro e w5 ⟨r,rfl,hb⟩;have dF:=aa (HB.o.trans (hb.mono HB.o.size));have Ic:=aa (HK.o.bZ hb HK.o.lt);clear hb HB HK;have HB:=dF;have HK:=Ic;clear dF Ic;cases r;(case false=>go_wp2;exact HP.o (.returned (.bool false)) _ ⟨_,rfl,HB.o⟩);go_wp2;go_roundw;exact⟨k+1,by omega,rfl,HK,HB⟩;simp[intOf];omega);go_wp2;exact HP.o (.returned (.bool true)) _ ⟨_,rfl,HB.o⟩
end Go.Proofs.YtfppbjfnllhgcaaGreat
