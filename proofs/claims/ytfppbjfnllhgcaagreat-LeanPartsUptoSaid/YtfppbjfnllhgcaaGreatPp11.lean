/- Parts of the proof, packed (Inf5 to CalcC); each theorem bears its own conditions. -/
import Derived.Test.YtfppbjfnllhgcaaGreatPp10
set_option linter.unusedVariables false
set_option linter.unusedSimpArgs false
set_option maxRecDepth 100000
set_option maxHeartbeats 8000000
open Go.Proofs.Tryz
open Go.Lib renaming hid → aa
open Nat renaming le_refl→aaB,lt_of_lt_of_le→aaD,le_trans→aaC,zero_le→aaG
open Go.World renaming size_alloc→aaI
open List renaming getElem_mem→aan,length_append→aao,getD_eq_getElem?_getD→aam,take_of_length_le→aax,mem_cons→aas,getD_cons_zero→aal,getD_cons_succ→aak,take_succ_eq_append_getElem→aaz,mem_map→aat,drop_eq_getElem_cons→aah,length_take→aaq
open Go.RowKit.Below renaming refl→aaf
open Bool renaming and_eq_true→aag
open Option renaming map_eq_some_iff→aaH
theorem bG {p:Prop} (h:p:=by rw[beq_eq_false_iff_ne];omega):p:=h
theorem aV {p:Prop} (h:p:=by rw[HE.o];rfl):p:=h
theorem bQ {p:Prop} (h:p:=by rw[HE.o];exact K5.o):p:=h
theorem bC {p:Prop} (h:p:=by rw[HE.o];show cN _ _ _ (ic it.jP);rw[HT.o];exact K5.o):p:=h
namespace Go.Proofs.YtfppbjfnllhgcaaGreat
section
open Go Go.RowKit Bg Go.Proofs Sh Kb Ck
theorem lX {P:Program} {ops:Array Oper} {o:Oper} {a:Act} {w:World} {K:Act→World→Prop} {Q:Exit→Act→World→Prop} {E:Prop} (hgd:o.guard=none) (ty:TypeId) (x y:Operand) (ho:o.op= .store ty x y) (g:Nat) (cells:List Value) (hx:a.eval x= .pointer (bY g 0)) (hy:a.eval y= .agg cells.toArray) (t:TypeId) {old:List Value} (hg:cN w g t old) (hi:(P.info? ty).map (·.size)=some cells.length) (hold:old.length=cells.length) (h1:cells.all (·.oneCell')=true) (h:∀ w',Hid (cN w' g t cells)→w.grownBy w' (some g)→K (a.put o.dst undef) w'):if Region.wanted o (yielded ops a.tmps)=true then Oper.wp P o a w K Q else E:=by
 have hw:Region.wanted o (yielded ops a.tmps)=true:=(by simp[Region.wanted,hgd]);rw[if_pos hw];exact wp_store_row ty x y ho g cells.toArray hx hy t old.toArray hg aX (by simpa using hold) aF (h _ (aa (cN.row_ hg cells)) (xC _ _ _))
def qN:Rel nS:=mg 7 qd (fun _=>rfl) (fun x v hv=>by simp[qd,ic]at hv;rcases hv with rfl|rfl|rfl|rfl|rfl|rfl|rfl<;>rfl)
theorem uI {w:World} {S:Nat→Prop} {b o:Nat} {args:List nS} (h:Sq qN w S (bY b o) args) {j:Nat} {x:nS} (hj:args[j]? =some x):∀ i,i<7→w.cell? (bY b (o+j*7+i))=(qd x)[i]? :=fun i hi=>by
 obtain⟨hjl,e⟩:=List.getElem?_eq_some_iff.1 hj;obtain⟨b',o',cs,hA,_,_,hcs,cM⟩:=h.get hjl;injection hA with hA;injection hA with e1 e2;subst e1 e2;have hcs:cs=qd args[j]:=hcs;rw[e]at hcs;subst hcs;have hl:i<(qd x).length:=hi;rw[List.getElem?_eq_getElem hl];exact cM i _ (List.getElem?_eq_getElem hl)
theorem DC (A:Option Addr) (c:Nat) (fv:Value) (w:World):Calls prog 317 #[bW A 0 c,fv] w fun e w'=>e= .returned (bU (-1))∧w=w':=by
 go_enter func317,ntmps317;go_wp2_with fail;refine wp_loop_rounds 1 ?_;rw[rounds_succ];go_wp2;go_ret;exact⟨rfl,rfl⟩
theorem xH (A:Option Addr) (c:Nat) (fv:Value) (w:World):Calls prog 304 #[bW A 0 c,fv] w fun e w'=>e= .returned (.bool false)∧w=w':=by
 go_enter func304,ntmps304;go_wp2_with (go_at_call 317;refine(DC _ _ _ _).mono ?_;rintro e w' ⟨rfl,rfl⟩);go_ret;exact⟨rfl,rfl⟩
theorem Eu (p:_→Bool) (g:Nat) (lb:Array Value) (eg:∀ args w,(callFunc g args).run prog w= .ok (.enter g args) w) (A:Option Addr) (c:Nat) (xs:List nS) (w:World) (hp:jT prog g lb qN p xs w) (hbig:xs.length≤maxLen) (hs:Sq qN w Any A xs):Calls prog 304 #[bW A xs c,.func (.func g) #[] lb] w fun e w'=>e= .returned (.bool (xs.any p))∧Below w w w':=by
 cases xs with
 |nil=>exact(xH A c _ w).mono fun e w' ⟨he,hw⟩=>⟨he,hw▸aaf _ _⟩
 |cons a l=>exact pI (R:=qN) Hi Tryz.isAgg137 Tryz.sizeOf137 p g lb eg A c (a :: l) w hp aR hs ai
theorem Ev:∀ args w,(callFunc 305 args).run prog w= .ok (.enter 305 args) w:=enters_of func305 ah rfl
theorem Qw (l:List nS) (w:World):jT prog 305 #[] qN (fun t=> !t.truth) l w:=fun W cs x hx ey hb=>by
 have ey:cs=qd x:=ey;subst ey;obtain⟨tx,dx⟩:=x;show Calls prog 305 #[.agg #[.bool tx,bU (dx.getD 0 0),bU (dx.getD 1 0),bU (dx.getD 2 0),bU (dx.getD 3 0),bU (dx.getD 4 0),bU (dx.getD 5 0)]] W _;clear hx;go_enter func305,ntmps305;go_wp2;go_ret;exact⟨rfl,cS _⟩
theorem Qx (A:Option Addr) (c:Nat) (args:List nS) (w:World) (hs:Sq qN w Any A args) (hl:args.length≤1000000):Calls prog 280 #[bW A args c] w (AL (rE args) w):=by
 generalize hP:AL (rE args) w=P;have HP:=aa (show ∀ e w',AL (rE args) w e w'→P e w' from fun e w' h=>hP▸h);have HR:Hid (rE args=(if args.any (fun t=> !t.truth)then(13,zT)else(0,MX):Int×nS)):=aa rfl;generalize rE args=q at HP HR;clear hP;have HC:=aa (fun W (h:Below w w W)=>Eu (fun t=> !t.truth) 305 #[] Ev A c args W (Qw args W) aH (hs.bZ h));generalize args.any (fun t=> !t.truth)=r at HC HR;generalize args.length=n at HC ⊢;clear hs hl;have HT:=aa (fun W=>DB W);go_enter func280,ntmps280;go_upto_region 1 with fail;have K2:=aa (show cN (w.alloc (.cells #[.bool false,bU 0,bU 0,bU 0,bU 0,bU 0,bU 0] 137)) w 137 [.bool false,bU 0,bU 0,bU 0,bU 0,bU 0,bU 0]from heap_alloc_new w _);have HB:=aa ((aaf w w).alloc aac (.cells #[.bool false,bU 0,bU 0,bU 0,bU 0,bU 0,bU 0] 137));generalize w.alloc (.cells #[.bool false,bU 0,bU 0,bU 0,bU 0,bU 0,bU 0] 137)=w1 at K2 HB ⊢;cases r;(case true=>have HE:=aa (show q=(13,zT)from HR.o);go_wp2_with (first|(go_at_call 304;refine(HC.o _ HB.o).mono ?_;rintro e w6 ⟨rfl,eO⟩;have K6:=aa (K2.o.bZ eO K2.o.lt);have eA:=aa (HB.o.trans (eO.mono HB.o.size));clear eO)|(refine cQ rfl _ _ _ rfl _ _ rfl rfl _ K6.o dS rfl rfl ?_;intro w5 K5 gp));exact bodyPost_ret (cO rfl _ _ _ 137 _ _ _ rfl rfl K5.o underlying137 rfl dS) rfl (HP.o _ _ ⟨by rw[HE.o];rfl,cC eA.o gp aac af⟩));have HE:=aa (show q=(0,MX)from HR.o);go_wp2_with (first|(go_at_call 304;refine(HC.o _ HB.o).mono ?_;rintro e w6 ⟨rfl,eO⟩;have K6:=aa (K2.o.bZ eO K2.o.lt);have eA:=aa (HB.o.trans (eO.mono HB.o.size));clear eO)|(go_at_call 278;refine(HT.o _).mono ?_;rintro e w7 ⟨rfl,nE⟩;have K7:=aa (K6.o.bZ nE K6.o.lt);have ko:=aa (eA.o.trans (nE.mono eA.o.size));clear nE)|(refine cQ rfl _ _ _ rfl _ _ rfl rfl _ K7.o dS rfl rfl ?_;intro w5 K5 gp));exact bodyPost_ret (cO rfl _ _ _ 137 _ _ _ rfl rfl K5.o underlying137 rfl dS) rfl (HP.o _ _ ⟨by rw[HE.o];rfl,cC ko.o gp aac af⟩)
def Ho (op:Int) (n:Nat):Prop:=(op=2→1≤n)∧(op=6∨op=7∨op=10∨op=11∨op=12∨op=13∨op=8∨op=9→2≤n)∧(op=5→3≤n)
theorem oZ {args:List nS} {j:Nat} (h:j<args.length):args[j]? =some (args.getD j zT):=by
 rw[aam,List.getElem?_eq_getElem h];rfl
theorem lY {fn:Func} (hf:fn.results=#[.cell 6 137,.tmp 7]) {P:Ending→World→Prop} {q:Int×nS} {w w5:World} {tm:Array Value} {g:Nat} (K5:cN w5 g 137 (qd q.2)) (hp:tm.getD 6 undef= .pointer (bY g 0)) (hv:tm.getD 7 undef=bU q.1)
 (HP:∀ e w',AL q w e w'→P e w') (hb:Below w w w5):bodyPost prog fn P .ret ⟨tm,[]⟩ w5:=
 bodyPost_ret (cO hf _ _ _ 137 _ _ _ hp hv K5 underlying137 rfl dS) rfl (HP _ _ ⟨rfl,hb⟩)
theorem UK (m1:Value) (g2:Nat) (ts:List fF) (op n:Int) (un nm:ByteArray) (av:Value) (A:Option Addr) (c:Nat) (args:List nS) (w:World) (hm:mO w g2 ts) (h6:OT ts) (hn:nm.size≤maxLen) (hs:Sq qN w Any A args) (hl:args.length≤1000000) (hd:∀ t∈args,t.jP.length=6) (he:Ho op args.length):Calls prog 245 #[.agg #[m1,.map (some g2)],.agg #[bU op,bU n,bV un,bV nm,av],bW A args c] w (AL (Ck.jK ts op nm args) w):=by
 generalize hP:AL (Ck.jK ts op nm args) w=P;have HP:=aa (show ∀ e w',AL (Ck.jK ts op nm args) w e w'→P e w' from fun e w' h=>hP▸h);clear hP;have HM:=aa hm;have H6:=aa h6;have HS:=aa hs;have HD:=aa (show ∀ j,j<args.length→(args.getD j zT).jP.length=6 from fun j hj=>hd _ (List.mem_of_getElem? (oZ hj)));have HE:=aa he;have HLo:=aa (fun W (h:Below w w W)=>Qx A c args W (hs.bZ h) hl);obtain⟨m,hmm⟩:∃ m,m=args.length:=⟨_,rfl⟩;have HN:=aa hmm;rw[← hmm]at hl HLo ⊢;clear hm h6 hs hd he hmm;go_enter func245,ntmps245;go_upto_region 1 with fail;obtain⟨w1,hw1,K0,K1,K2,HB⟩:=nP w [m1,.map (some g2)] [.int .i64 op,.int .i64 n,bV un,bV nm,av] [.bool false,.int .i64 0,.int .i64 0,.int .i64 0,.int .i64 0,.int .i64 0,.int .i64 0] 279 47 137;rw[hw1];clear hw1;have x0:=K0.o.cell;have x1:=K1.o.cell;have jy:=aa (show Below w w w1.drew from⟨HB.o.os,HB.o.tape,HB.o.output,HB.o.size,HB.o.block⟩);have VU:=aa (show cN w1.drew (w+1+1) 137 [.bool false,.int .i64 0,.int .i64 0,.int .i64 0,.int .i64 0,.int .i64 0,.int .i64 0]from K2.o);have HCB:=aa (show ∀ w',Below w1 w1 w'→∀ b' o',b'<w.heap.size+1+1→w'.cell? (bY b' o')=w1.cell? (bY b' o')from fun w' h b' o' hb=>h.cell (p:=bY b' o') (by show b'<w1.heap.size;have:=K1.o.lt;omega));have Rs:=aa (show ∀ w6 w5,Below w1 w1 w6→w6.grownBy w5 (some (w+1+1))→∀ b' o',b'<w.heap.size+1+1→w5.cell? (bY b' o')=w1.cell? (bY b' o')from fun w6 w5 h k b' o' hb=>(World.cell?_of_block (a:=bY b' o') (k.block b' (by have:=K1.o.lt;have:=h.size;omega) (fun e=>by injection e with e;omega))).trans (HCB.o w6 h b' o' hb));have cG:=aa (show Below w1 w1 w1.drew from⟨rfl,rfl,rfl,aaB _,fun _ _=>rfl⟩);have WA:w.heap.size<w.heap.size+1+1:=af;have hq1:w.heap.size+1<w.heap.size+1+1:=af;have hcs:op=2∨(op=6∨op=7∨op=10∨op=11)∨(op=12∨op=13)∨(op=8∨op=9)∨op=5∨(op≠2∧op≠6∧op≠7∧op≠10∧op≠11∧op≠12∧op≠13∧op≠8∧op≠9∧op≠5):=af;rcases hcs with ho|ho|ho|ho|ho|ho;case inl=>
  subst ho
  have h1:0<m:=by rw[HN.o];exact HE.o.1 rfl
  have HQ:=aa (show Ck.jK ts 2 nm args=xh ts nm (args.getD 0 zT)from rfl)
  generalize Ck.jK ts 2 nm args=q at HP HQ
  obtain⟨br,o,hA,_,hbr⟩:=HS.o.addr (fun e=>by have h:=HN.o;rw[e]at h;simp at h;omega)
  subst hA
  replace hbr:br<w.heap.size+1+1:=by omega
  have ga:=oZ (args:=args) (j:=0) aC
  have la:=HD.o 0 aC
  generalize args.getD 0 zT=a at ga la HQ
  obtain⟨ta,da⟩:=a
  obtain⟨a0,a1,a2,a3,a4,a5,hda⟩:=six la
  dsimp only at hda
  subst hda
  have ca:=uI (HS.o.bZ HB.o) ga
  simp only[qd,ic,aal,aak]at ca
  have ca0:b_ w1 br o (.bool ta):=ca 0 af
  have ca1:b_ w1 br (o+1) (bU a0):=ca 1 af
  have ca2:b_ w1 br (o+2) (bU a1):=ca 2 af
  have ca3:b_ w1 br (o+3) (bU a2):=ca 3 af
  have ca4:b_ w1 br (o+4) (bU a3):=ca 4 af
  have ca5:b_ w1 br (o+5) (bU a4):=ca 5 af
  have ca6:b_ w1 br (o+6) (bU a5):=ca 6 af
  clear ca
  have HK:=aa (fun W (h:Below w w W)=>UI m1 g2 ts nm ⟨ta,[a0,a1,a2,a3,a4,a5]⟩ W (HM.o.bZ h) H6.o la hn)
  rw[← HQ.o]at HK
  simp only[qd,ic,aal,aak]at HK
  clear ga la HQ
  go_wp2_with fail
  refine cV (S:=fun w'=>∀ b' o',b'<w.heap.size+1+1→w'.cell? (bY b' o')=w1.cell? (bY b' o')) [0,1,3,2,4,5,7,8,10] [(0,false),(1,false),(3,false),(2,false),(4,false),(5,false),(6,true),(7,false),(8,false),(9,true),(10,false)] ah ah aq rfl ah (fun _ _ _=>rfl) ?_
  iterate 6 refine hwr ?_
  refine hwt fun K hK=>?_
  go_simp
  refine(HK.o _ (HB.o.trans (cG.o.mono HB.o.size))).mono ?_
  rintro e w6 ⟨rfl,eO⟩
  have K6:=aa ((VU.o).bZ eO (VU.o).lt)
  have eA:=aa ((cG.o).trans (eO.mono (cG.o).size))
  refine hK.o _ _ (HCB.o _ eA.o) ?_
  clear hK K
  refine hwr ?_
  refine hwr ?_
  refine hwt fun K hK=>?_
  refine lX rfl _ _ _ rfl _ _ rfl rfl _ K6.o dS rfl rfl ?_
  intro w5 K5 gp
  refine hK.o _ _ (Rs.o _ _ eA.o gp) ?_
  clear hK K
  refine hwr ?_
  refine eD ?_
  try go_frame
  go_wp2_with fail
  exact lY rfl K5.o rfl rfl HP.o (cC (HB.o.trans (eA.o.mono HB.o.size)) gp aac af)
 case inr.inl=>
  have h2:1<m:=by rw[HN.o];exact HE.o.2.1 af
  have h1:0<m:=by omega
  have h2i:(1:Int)<(m:Int):=by omega
  have HQ:=aa (show Ck.jK ts op nm args=jW (args.getD 0 zT) (args.getD 1 zT) (args.getD 0 zT) by unfold Ck.jK;rw[if_neg af,if_pos af])
  generalize Ck.jK ts op nm args=q at HP HQ
  obtain⟨br,o,hA,_,hbr⟩:=HS.o.addr (fun e=>by have h:=HN.o;rw[e]at h;simp at h;omega)
  subst hA
  replace hbr:br<w.heap.size+1+1:=by omega
  have ga:=oZ (args:=args) (j:=0) aC
  have la:=HD.o 0 aC
  generalize args.getD 0 zT=a at ga la HQ
  obtain⟨ta,da⟩:=a
  obtain⟨a0,a1,a2,a3,a4,a5,hda⟩:=six la
  dsimp only at hda
  subst hda
  have gb:=oZ (args:=args) (j:=1) aC
  have lb:=HD.o 1 aC
  generalize args.getD 1 zT=b at gb lb HQ
  obtain⟨tb,db⟩:=b
  obtain⟨b0,b1,b2,b3,b4,b5,hdb⟩:=six lb
  dsimp only at hdb
  subst hdb
  have ca:=uI (HS.o.bZ HB.o) ga
  simp only[qd,ic,aal,aak]at ca
  have ca0:b_ w1 br o (.bool ta):=ca 0 af
  have ca1:b_ w1 br (o+1) (bU a0):=ca 1 af
  have ca2:b_ w1 br (o+2) (bU a1):=ca 2 af
  have ca3:b_ w1 br (o+3) (bU a2):=ca 3 af
  have ca4:b_ w1 br (o+4) (bU a3):=ca 4 af
  have ca5:b_ w1 br (o+5) (bU a4):=ca 5 af
  have ca6:b_ w1 br (o+6) (bU a5):=ca 6 af
  clear ca
  have cb:=uI (HS.o.bZ HB.o) gb
  simp only[qd,ic,aal,aak]at cb
  have cb0:b_ w1 br (o+7) (.bool tb):=cb 0 af
  have cb1:b_ w1 br (o+8) (bU b0):=cb 1 af
  have cb2:b_ w1 br (o+9) (bU b1):=cb 2 af
  have cb3:b_ w1 br (o+10) (bU b2):=cb 3 af
  have cb4:b_ w1 br (o+11) (bU b3):=cb 4 af
  have cb5:b_ w1 br (o+12) (bU b4):=cb 5 af
  have cb6:b_ w1 br (o+13) (bU b5):=cb 6 af
  clear cb
  have HK:=aa (fun W=>yZ ⟨ta,[a0,a1,a2,a3,a4,a5]⟩ ⟨tb,[b0,b1,b2,b3,b4,b5]⟩ ⟨ta,[a0,a1,a2,a3,a4,a5]⟩ W la lb)
  rw[← HQ.o]at HK
  simp only[qd,ic,aal,aak]at HK
  clear ga la gb lb HQ
  rcases ho with rfl|rfl|rfl|rfl
  all_goals (
   go_wp2_with fail
   refine cV (S:=fun w'=>∀ b' o',b'<w.heap.size+1+1→w'.cell? (bY b' o')=w1.cell? (bY b' o')) [0,3,6,1,4,7,2,5,8,10,11,13] [(0,false),(3,false),(6,false),(1,false),(4,false),(7,false),(2,false),(5,false),(8,false),(9,true),(10,false),(11,false),(12,true),(13,false)] ah ah aq rfl ah (fun _ _ _=>rfl) ?_
   iterate 9 refine hwr ?_
   refine hwt fun K hK=>?_
   go_simp
   refine(HK.o _).mono ?_
   rintro e w6 ⟨rfl,eO⟩
   have K6:=aa ((VU.o).bZ eO (VU.o).lt)
   have eA:=aa ((cG.o).trans (eO.mono (cG.o).size))
   refine hK.o _ _ (HCB.o _ eA.o) ?_
   clear hK K
   refine hwr ?_
   refine hwr ?_
   refine hwt fun K hK=>?_
   refine lX rfl _ _ _ rfl _ _ rfl rfl _ K6.o dS rfl rfl ?_
   intro w5 K5 gp
   refine hK.o _ _ (Rs.o _ _ eA.o gp) ?_
   clear hK K
   refine hwr ?_
   refine eD ?_
   try go_frame
   go_wp2_with fail
   exact lY rfl K5.o rfl rfl HP.o (cC (HB.o.trans (eA.o.mono HB.o.size)) gp aac af))
 case inr.inr.inl=>
  have h2:1<m:=by rw[HN.o];exact HE.o.2.1 af
  have h1:0<m:=by omega
  have h2i:(1:Int)<(m:Int):=by omega
  have HQ:=aa (show Ck.jK ts op nm args=jW (args.getD 0 zT) (args.getD 1 zT) MX by unfold Ck.jK;rw[if_neg af,if_neg af,if_pos af])
  generalize Ck.jK ts op nm args=q at HP HQ
  obtain⟨br,o,hA,_,hbr⟩:=HS.o.addr (fun e=>by have h:=HN.o;rw[e]at h;simp at h;omega)
  subst hA
  replace hbr:br<w.heap.size+1+1:=by omega
  have ga:=oZ (args:=args) (j:=0) aC
  have la:=HD.o 0 aC
  generalize args.getD 0 zT=a at ga la HQ
  obtain⟨ta,da⟩:=a
  obtain⟨a0,a1,a2,a3,a4,a5,hda⟩:=six la
  dsimp only at hda
  subst hda
  have gb:=oZ (args:=args) (j:=1) aC
  have lb:=HD.o 1 aC
  generalize args.getD 1 zT=b at gb lb HQ
  obtain⟨tb,db⟩:=b
  obtain⟨b0,b1,b2,b3,b4,b5,hdb⟩:=six lb
  dsimp only at hdb
  subst hdb
  have ca:=uI (HS.o.bZ HB.o) ga
  simp only[qd,ic,aal,aak]at ca
  have ca0:b_ w1 br o (.bool ta):=ca 0 af
  have ca1:b_ w1 br (o+1) (bU a0):=ca 1 af
  have ca2:b_ w1 br (o+2) (bU a1):=ca 2 af
  have ca3:b_ w1 br (o+3) (bU a2):=ca 3 af
  have ca4:b_ w1 br (o+4) (bU a3):=ca 4 af
  have ca5:b_ w1 br (o+5) (bU a4):=ca 5 af
  have ca6:b_ w1 br (o+6) (bU a5):=ca 6 af
  clear ca
  have cb:=uI (HS.o.bZ HB.o) gb
  simp only[qd,ic,aal,aak]at cb
  have cb0:b_ w1 br (o+7) (.bool tb):=cb 0 af
  have cb1:b_ w1 br (o+8) (bU b0):=cb 1 af
  have cb2:b_ w1 br (o+9) (bU b1):=cb 2 af
  have cb3:b_ w1 br (o+10) (bU b2):=cb 3 af
  have cb4:b_ w1 br (o+11) (bU b3):=cb 4 af
  have cb5:b_ w1 br (o+12) (bU b4):=cb 5 af
  have cb6:b_ w1 br (o+13) (bU b5):=cb 6 af
  clear cb
  have HK:=aa (fun W=>yZ ⟨ta,[a0,a1,a2,a3,a4,a5]⟩ ⟨tb,[b0,b1,b2,b3,b4,b5]⟩ MX W la lb)
  rw[← HQ.o]at HK
  simp only[qd,ic,aal,aak]at HK
  have HT:=aa (fun W=>DB W)
  simp only[qd,ic,aal,aak]at HT
  clear ga la gb lb HQ
  rcases ho with rfl|rfl
  all_goals (
   go_wp2_with fail
   refine cV (S:=fun w'=>∀ b' o',b'<w.heap.size+1+1→w'.cell? (bY b' o')=w1.cell? (bY b' o')) [0,3,1,4,2,5,8,9,11] [(0,false),(3,false),(1,false),(4,false),(2,false),(5,false),(6,true),(7,true),(8,false),(9,false),(10,true),(11,false)] ah ah aq rfl ah (fun _ _ _=>rfl) ?_
   iterate 6 refine hwr ?_
   refine hwt fun K hK=>?_
   go_simp
   refine(HT.o _).mono ?_
   rintro e w7 ⟨rfl,nE⟩
   have K7:=aa (VU.o.bZ nE VU.o.lt)
   have ko:=aa (cG.o.trans (nE.mono cG.o.size))
   refine hK.o _ _ (HCB.o _ ko.o) ?_
   clear hK K
   refine hwt fun K hK=>?_
   go_simp
   refine(HK.o _).mono ?_
   rintro e w6 ⟨rfl,eO⟩
   have K6:=aa ((K7.o).bZ eO (K7.o).lt)
   have eA:=aa ((ko.o).trans (eO.mono (ko.o).size))
   refine hK.o _ _ (HCB.o _ eA.o) ?_
   clear hK K
   refine hwr ?_
   refine hwr ?_
   refine hwt fun K hK=>?_
   refine lX rfl _ _ _ rfl _ _ rfl rfl _ K6.o dS rfl rfl ?_
   intro w5 K5 gp
   refine hK.o _ _ (Rs.o _ _ eA.o gp) ?_
   clear hK K
   refine hwr ?_
   refine eD ?_
   try go_frame
   go_wp2_with fail
   exact lY rfl K5.o rfl rfl HP.o (cC (HB.o.trans (eA.o.mono HB.o.size)) gp aac af))
 case inr.inr.inr.inl=>
  have h2:1<m:=by rw[HN.o];exact HE.o.2.1 af
  have h1:0<m:=by omega
  have h2i:(1:Int)<(m:Int):=by omega
  have HQ:=aa (show Ck.jK ts op nm args=xq op (args.getD 0 zT) (args.getD 1 zT) by unfold Ck.jK;rw[if_neg af,if_neg af,if_neg af,if_pos af])
  generalize Ck.jK ts op nm args=q at HP HQ
  obtain⟨br,o,hA,_,hbr⟩:=HS.o.addr (fun e=>by have h:=HN.o;rw[e]at h;simp at h;omega)
  subst hA
  replace hbr:br<w.heap.size+1+1:=by omega
  have ga:=oZ (args:=args) (j:=0) aC
  have la:=HD.o 0 aC
  generalize args.getD 0 zT=a at ga la HQ
  obtain⟨ta,da⟩:=a
  obtain⟨a0,a1,a2,a3,a4,a5,hda⟩:=six la
  dsimp only at hda
  subst hda
  have gb:=oZ (args:=args) (j:=1) aC
  have lb:=HD.o 1 aC
  generalize args.getD 1 zT=b at gb lb HQ
  obtain⟨tb,db⟩:=b
  obtain⟨b0,b1,b2,b3,b4,b5,hdb⟩:=six lb
  dsimp only at hdb
  subst hdb
  have ca:=uI (HS.o.bZ HB.o) ga
  simp only[qd,ic,aal,aak]at ca
  have ca0:b_ w1 br o (.bool ta):=ca 0 af
  have ca1:b_ w1 br (o+1) (bU a0):=ca 1 af
  have ca2:b_ w1 br (o+2) (bU a1):=ca 2 af
  have ca3:b_ w1 br (o+3) (bU a2):=ca 3 af
  have ca4:b_ w1 br (o+4) (bU a3):=ca 4 af
  have ca5:b_ w1 br (o+5) (bU a4):=ca 5 af
  have ca6:b_ w1 br (o+6) (bU a5):=ca 6 af
  clear ca
  have cb:=uI (HS.o.bZ HB.o) gb
  simp only[qd,ic,aal,aak]at cb
  have cb0:b_ w1 br (o+7) (.bool tb):=cb 0 af
  have cb1:b_ w1 br (o+8) (bU b0):=cb 1 af
  have cb2:b_ w1 br (o+9) (bU b1):=cb 2 af
  have cb3:b_ w1 br (o+10) (bU b2):=cb 3 af
  have cb4:b_ w1 br (o+11) (bU b3):=cb 4 af
  have cb5:b_ w1 br (o+12) (bU b4):=cb 5 af
  have cb6:b_ w1 br (o+13) (bU b5):=cb 6 af
  clear cb
  have HK:=aa (fun W=>Kc op ⟨ta,[a0,a1,a2,a3,a4,a5]⟩ ⟨tb,[b0,b1,b2,b3,b4,b5]⟩ W la lb)
  rw[← HQ.o]at HK
  simp only[qd,ic,aal,aak]at HK
  clear ga la gb lb HQ
  rcases ho with rfl|rfl
  all_goals (
   go_wp2_with fail
   refine cV (S:=fun w'=>∀ b' o',b'<w.heap.size+1+1→w'.cell? (bY b' o')=w1.cell? (bY b' o')) [0,2,5,1,3,6,4,7,9,10,12] [(0,false),(2,false),(5,false),(1,false),(3,false),(6,false),(4,false),(7,false),(8,true),(9,false),(10,false),(11,true),(12,false)] ah ah aq rfl ah (fun _ _ _=>rfl) ?_
   iterate 8 refine hwr ?_
   refine hwt fun K hK=>?_
   go_simp
   refine(HK.o _).mono ?_
   rintro e w6 ⟨rfl,eO⟩
   have K6:=aa ((VU.o).bZ eO (VU.o).lt)
   have eA:=aa ((cG.o).trans (eO.mono (cG.o).size))
   refine hK.o _ _ (HCB.o _ eA.o) ?_
   clear hK K
   refine hwr ?_
   refine hwr ?_
   refine hwt fun K hK=>?_
   refine lX rfl _ _ _ rfl _ _ rfl rfl _ K6.o dS rfl rfl ?_
   intro w5 K5 gp
   refine hK.o _ _ (Rs.o _ _ eA.o gp) ?_
   clear hK K
   refine hwr ?_
   refine eD ?_
   try go_frame
   go_wp2_with fail
   exact lY rfl K5.o rfl rfl HP.o (cC (HB.o.trans (eA.o.mono HB.o.size)) gp aac af))
 case inr.inr.inr.inr.inl=>
  subst ho
  have h3:2<m:=by rw[HN.o];exact HE.o.2.2 rfl
  have h2:1<m:=by omega
  have h1:0<m:=by omega
  have h2i:(1:Int)<(m:Int):=by omega
  have h3i:(2:Int)<(m:Int):=by omega
  have HQ:Hid (Ck.jK ts 5 nm args=(if(args.getD 0 zT).truth then jW (args.getD 1 zT) (args.getD 2 zT) (args.getD 1 zT)else(13,zT):Int×nS)):=aa rfl
  generalize Ck.jK ts 5 nm args=q at HP HQ
  obtain⟨br,o,hA,_,hbr⟩:=HS.o.addr (fun e=>by have h:=HN.o;rw[e]at h;simp at h;omega)
  subst hA
  replace hbr:br<w.heap.size+1+1:=by omega
  have ga:=oZ (args:=args) (j:=0) aC
  have la:=HD.o 0 aC
  generalize args.getD 0 zT=a at ga la HQ
  obtain⟨ta,da⟩:=a
  obtain⟨a0,a1,a2,a3,a4,a5,hda⟩:=six la
  dsimp only at hda
  subst hda
  have gb:=oZ (args:=args) (j:=1) aC
  have lb:=HD.o 1 aC
  generalize args.getD 1 zT=b at gb lb HQ
  obtain⟨tb,db⟩:=b
  obtain⟨b0,b1,b2,b3,b4,b5,hdb⟩:=six lb
  dsimp only at hdb
  subst hdb
  have gc:=oZ (args:=args) (j:=2) aC
  have lc:=HD.o 2 aC
  generalize args.getD 2 zT=c at gc lc HQ
  obtain⟨tc,dc⟩:=c
  obtain⟨c0,c1,c2,c3,c4,c5,hdc⟩:=six lc
  dsimp only at hdc
  subst hdc
  have ca:=uI (HS.o.bZ HB.o) ga
  simp only[qd,ic,aal,aak]at ca
  have ca0:b_ w1 br o (.bool ta):=ca 0 af
  have ca1:b_ w1 br (o+1) (bU a0):=ca 1 af
  have ca2:b_ w1 br (o+2) (bU a1):=ca 2 af
  have ca3:b_ w1 br (o+3) (bU a2):=ca 3 af
  have ca4:b_ w1 br (o+4) (bU a3):=ca 4 af
  have ca5:b_ w1 br (o+5) (bU a4):=ca 5 af
  have ca6:b_ w1 br (o+6) (bU a5):=ca 6 af
  clear ca
  have cb:=uI (HS.o.bZ HB.o) gb
  simp only[qd,ic,aal,aak]at cb
  have cb0:b_ w1 br (o+7) (.bool tb):=cb 0 af
  have cb1:b_ w1 br (o+8) (bU b0):=cb 1 af
  have cb2:b_ w1 br (o+9) (bU b1):=cb 2 af
  have cb3:b_ w1 br (o+10) (bU b2):=cb 3 af
  have cb4:b_ w1 br (o+11) (bU b3):=cb 4 af
  have cb5:b_ w1 br (o+12) (bU b4):=cb 5 af
  have cb6:b_ w1 br (o+13) (bU b5):=cb 6 af
  clear cb
  have cc:=uI (HS.o.bZ HB.o) gc
  simp only[qd,ic,aal,aak]at cc
  have cc0:b_ w1 br (o+14) (.bool tc):=cc 0 af
  have cc1:b_ w1 br (o+15) (bU c0):=cc 1 af
  have cc2:b_ w1 br (o+16) (bU c1):=cc 2 af
  have cc3:b_ w1 br (o+17) (bU c2):=cc 3 af
  have cc4:b_ w1 br (o+18) (bU c3):=cc 4 af
  have cc5:b_ w1 br (o+19) (bU c4):=cc 5 af
  have cc6:b_ w1 br (o+20) (bU c5):=cc 6 af
  clear cc
  have HK:=aa (fun W=>yZ ⟨tb,[b0,b1,b2,b3,b4,b5]⟩ ⟨tc,[c0,c1,c2,c3,c4,c5]⟩ ⟨tb,[b0,b1,b2,b3,b4,b5]⟩ W lb lc)
  clear ga la gb lb gc lc
  cases ta
  case false=>
   have GD:=aa (show q=(13,zT)from HQ.o);go_wp2_with (refine cQ rfl _ _ _ rfl _ _ rfl rfl _ K2.o dS rfl rfl ?_;intro w5 K5 gp);exact lY (q:=q) rfl (by rw[GD.o];exact K5.o) rfl (by rw[GD.o];rfl) HP.o (cC HB.o gp aac af)
  case true=>
   replace HQ:=aa (show q=jW ⟨tb,[b0,b1,b2,b3,b4,b5]⟩ ⟨tc,[c0,c1,c2,c3,c4,c5]⟩ ⟨tb,[b0,b1,b2,b3,b4,b5]⟩from HQ.o)
   rw[← HQ.o]at HK
   simp only[qd,ic,aal,aak]at HK
   go_wp2_with fail
   refine cV (S:=fun w'=>∀ b' o',b'<w.heap.size+1+1→w'.cell? (bY b' o')=w1.cell? (bY b' o')) [0,3,6,1,4,7,2,5,8,10,11,13] [(0,false),(3,false),(6,false),(1,false),(4,false),(7,false),(2,false),(5,false),(8,false),(9,true),(10,false),(11,false),(12,true),(13,false)] ah ah aq rfl ah (fun _ _ _=>rfl) ?_
   iterate 9 refine hwr ?_
   refine hwt fun K hK=>?_
   go_simp
   refine(HK.o _).mono ?_
   rintro e w6 ⟨rfl,eO⟩
   have K6:=aa ((VU.o).bZ eO (VU.o).lt)
   have eA:=aa ((cG.o).trans (eO.mono (cG.o).size))
   refine hK.o _ _ (HCB.o _ eA.o) ?_
   clear hK K
   refine hwr ?_
   refine hwr ?_
   refine hwt fun K hK=>?_
   refine lX rfl _ _ _ rfl _ _ rfl rfl _ K6.o dS rfl rfl ?_
   intro w5 K5 gp
   refine hK.o _ _ (Rs.o _ _ eA.o gp) ?_
   clear hK K
   refine hwr ?_
   refine eD ?_
   try go_frame
   go_wp2_with fail
   exact lY rfl K5.o rfl rfl HP.o (cC (HB.o.trans (eA.o.mono HB.o.size)) gp aac af)
 (case inr.inr.inr.inr.inr=>have HQ:=aa (show Ck.jK ts op nm args=rE args by unfold Ck.jK;rw[if_neg af,if_neg af,if_neg af,if_neg af,if_neg af]);generalize Ck.jK ts op nm args=q at HP HQ;rw[← HQ.o]at HLo;obtain⟨e2,e6,e7,e10,e11,e12,e13,e8,e9,e5⟩:=ho;have z2:(op==2)=false:=(by simpa using e2);have z6:(op==6)=false:=(by simpa using e6);have z7:(op==7)=false:=(by simpa using e7);have z10:(op==10)=false:=(by simpa using e10);have z11:(op==11)=false:=(by simpa using e11);have z12:(op==12)=false:=(by simpa using e12);have z13:(op==13)=false:=(by simpa using e13);have z8:(op==8)=false:=(by simpa using e8);have z9:(op==9)=false:=(by simpa using e9);have z5:(op==5)=false:=(by simpa using e5);clear e2 e6 e7 e10 e11 e12 e13 e8 e9 e5;go_wp2_with (first|(go_at_call 280;refine(HLo.o _ HB.o).mono ?_;rintro e w6 ⟨rfl,eO⟩;have K6:=aa (K2.o.bZ eO K2.o.lt);have eA:=aa (HB.o.trans (eO.mono HB.o.size));clear eO)|(refine cQ rfl _ _ _ rfl _ _ rfl rfl _ K6.o dS rfl rfl ?_;intro w5 K5 gp));exact lY rfl K5.o rfl rfl HP.o (cC eA.o gp aac af))
theorem Kg:∀ (l:List iP) (d:List Int) {e:List Int},sj l d=some e→e.length=d.length
 |[],d,e,h=>by unfold sj at h;injection h with h;rw[h]
 |x :: l,d,e,h=>by
  unfold sj at h;split at h
  (·cases h);next k z _=>
  rw[Kg l _ h];unfold RP;rw[List.length_set]
theorem kj (s:ByteArray):(iu s).length=6:=by
 unfold iu jI;split
 (·rfl);split
 (·rfl);next d h=>
 split
 (·have:=Kg _ _ h;exact this);rfl
theorem BF (vs ts:List fF):∀ (a b:List cw),AJ vs ts (a++b)=(match AJ vs ts a with
 | .inl e=> .inl e
 | .inr xs=>match AJ vs ts b with
  | .inl e=> .inl e
  | .inr ys=> .inr (xs++ys))
 |[],b=>by
  rw[List.nil_append];simp only[AJ];cases AJ vs ts b<;>rfl
 |x :: a,b=>by
  rw[List.cons_append,AJ,AJ,BF vs ts a b];by_cases h:(xw vs ts x).1=0
  ·simp only[h,if_true];cases AJ vs ts a with
   |inl e=>rfl
   |inr xs=>cases AJ vs ts b<;>rfl
  simp only[h,if_false]
theorem OU (vs ts:List fF) (x:cw):AJ vs ts [x]=if(xw vs ts x).1=0 then .inr [(xw vs ts x).2]else .inl (xw vs ts x).1:=by
 simp only[AJ]
theorem UL {vs ts:List fF} {l:List cw} {k:Nat} (hk:k<l.length) {xs:List nS} (h:AJ vs ts (l.take k)= .inr xs) (h0:(xw vs ts l[k]).1=0):AJ vs ts (l.take (k+1))= .inr (xs++[(xw vs ts l[k]).2]):=by
 rw[aaz hk,BF,h,OU,if_pos h0]
theorem UM {vs ts:List fF} {l:List cw} {k:Nat} (hk:k<l.length) {xs:List nS} (h:AJ vs ts (l.take k)= .inr xs) (h0:¬(xw vs ts l[k]).1=0):AJ vs ts l= .inl (xw vs ts l[k]).1:=by
 (have e:l=l.take k++([l[k]]++l.drop (k+1)):=by rw[List.singleton_append, ← aah hk,List.take_append_drop]);(conv=>lhs;rw[e]);rw[BF,h,BF,OU,if_neg h0]
theorem vA {a b r:nS} (h:r.jP.length=6):(jW a b r).2.jP.length=6:=by
 unfold jW;split
 (·rfl);split
 (·exact h);rfl
theorem Qy {op:Int} {a b:nS}:(xq op a b).2.jP.length=6:=by
 unfold xq;split
 (·rfl);split
 (·exact Qv);rfl
theorem Ng {args:List nS}:(rE args).2.jP.length=6:=by
 unfold rE;split<;>rfl
theorem Qz {vs:List fF} (h:OT vs) {op:Int} {u nm:ByteArray}:(uH vs op u nm).2.jP.length=6:=by
 unfold uH;split
 ·split
  (·rfl);(next d hd=>exact h _ _ hd)
 split
 (·exact kj u);rfl
theorem QA {ts:List fF} (h:OT ts) {nm:ByteArray} {key:nS}:(xh ts nm key).2.jP.length=6:=by
 unfold xh;split
 (·rfl);next d hd=>
 split
 (·rfl);split
 (·exact h _ _ hd);rfl
theorem Kh {args:List nS} (h:∀ t∈args,t.jP.length=6) (j:Nat):(args.getD j zT).jP.length=6:=by
 rw[aam];cases hj:args[j]? with
 |none=>rfl
 |some t=>exact h t (List.mem_of_getElem? hj)
theorem QB {ts:List fF} (h:OT ts) {op:Int} {nm:ByteArray} {args:List nS} (ha:∀ t∈args,t.jP.length=6):(Ck.jK ts op nm args).2.jP.length=6:=by
 unfold Ck.jK;split
 (·exact QA h);split
 (·exact vA (Kh ha 0));split
 (·exact vA rfl);split
 (·exact Qy);split
 ·split
  (·exact vA (Kh ha 1));rfl
 exact Ng
theorem OV {vs ts:List fF} (hv:OT vs) (ht:OT ts) (N:Nat):∀ x:cw,cE x≤N→(xw vs ts x).2.jP.length=6:=by
 induction N with
 |zero=>intro x hx;have:=dB x;omega
 |succ N ih=>
  intro x hx;cases x with
  |mk op n u nm l=>
   have h2:cE (.mk op n u nm l)=1+cT l:=aM;have hL:∀ l:List cw,cT l≤N→∀ xs,AJ vs ts l= .inr xs→∀ t∈xs,t.jP.length=6:=by
    intro l;induction l with
    |nil=>intro _ xs h t htm;simp only[AJ]at h;injection h with h;subst h;cases htm
    |cons y l ihl=>
     intro hn xs h t htm;have e:cT (y :: l)=cE y+cT l:=(by rw[cT]);rw[AJ]at h;dsimp only at h;by_cases h0:(xw vs ts y).1=0
     ·rw[if_pos h0]at h;cases hr:AJ vs ts l with
      |inl e=>rw[hr]at h;cases h
      |inr ys=>
       rw[hr]at h;injection h with h;subst h;rcases aas.1 htm with rfl|hm
       (·exact ih y af);exact ihl af ys hr t hm
     rw[if_neg h0]at h;cases h
   unfold xw;cases l with
   |nil=>exact Qz hv
   |cons y l=>
    dsimp only;cases hr:AJ vs ts (y :: l)with
    |inl e=>rfl
    |inr xs=>exact QB ht (hL _ af xs hr)
theorem tC:∀ {l:List cw},lK l=true→∀ y∈l,gK y=true
 |[],_,y,h=>by cases h
 |x :: l,h,y,hy=>by
  simp only[lK,aag]at h;rcases aas.1 hy with rfl|h2
  (·exact h.1);exact tC h.2 y h2
theorem QC {op n:Int} {u nm:ByteArray} {k:Nat} (h:qi op n u nm k=true):Ho op k:=by
 unfold qi at h;refine⟨fun e=>?_,fun e=>?_,fun e=>?_⟩
 (·subst e;simp at h;omega)
 (·rcases e with rfl|rfl|rfl|rfl|rfl|rfl|rfl|rfl<;>simp at h<;>omega);subst e;simp at h;omega
theorem XL {vs ts:List fF} {op n:Int} {u nm:ByteArray}:xw vs ts (.mk op n u nm [])=uH vs op u nm:=by
 unfold xw;dsimp only
def nodeR (ts:List fF) (op:Int) (nm:ByteArray):Int ⊕ List nS→Int×nS
 | .inl e=>(e,zT)
 | .inr args=>Ck.jK ts op nm args
theorem UN {vs ts:List fF} {op n:Int} {u nm:ByteArray} {l:List cw} (h:¬l.length=0):xw vs ts (.mk op n u nm l)=nodeR ts op nm (AJ vs ts l):=by
 cases l with
 |nil=>exact absurd rfl h
 |cons y l=>
  unfold xw;dsimp only;cases AJ vs ts (y :: l)with
  |inl e=>rfl
  |inr args=>rfl
theorem DD {fn:Func} (hf:fn.results=#[.cell 4 137,.tmp 5]) {P:Ending→World→Prop} {q:Int×nS} {w w5:World} {tm:Array Value} {g:Nat} (K5:cN w5 g 137 (qd q.2)) (hp:tm.getD 4 undef= .pointer (bY g 0)) (hv:tm.getD 5 undef=bU q.1)
 (HP:∀ e w',AL q w e w'→P e w') (hb:Below w w w5):bodyPost prog fn P .ret ⟨tm,[]⟩ w5:=
 bodyPost_ret (cO hf _ _ _ 137 _ _ _ hp hv K5 underlying137 rfl dS) rfl (HP _ _ ⟨rfl,hb⟩)
theorem Tryz.infTyq:PJ prog 312 137 7:= .of (.agg #[.bool false,bU 0,bU 0,bU 0,bU 0,bU 0,bU 0]) 56 underlying312 ah rfl ak ak
theorem inf_of (g1 g2:Nat) (vs ts:List fF) (hv:OT vs) (ht:OT ts) (N:Nat) (hN:N≤1000000):∀ (x:cw),cE x≤N→gK x=true→lZ x→∀ (w:World) (cs:List Value),mO w g1 vs→mO w g2 ts→cH w Any cs x→Calls prog 201 #[.agg #[.map (some g1),.map (some g2)],.agg cs.toArray] w (AL (xw vs ts x) w):=by
 induction N with
 |zero=>intro x hx;have:=dB x;omega
 |succ N ih=>
  intro x hx hsh hsm w cs Cr hm2 hI
  replace ih:=ih af
  obtain⟨op,n,un,nm,A2,c2,ar,e1,e2,hS⟩:=cH.parts hI
  subst e1 e2
  generalize hP:AL (xw vs ts (.mk op n un nm ar)) w=P
  have HP:=aa (show ∀ e w',AL (xw vs ts (.mk op n un nm ar)) w e w'→P e w' from fun e w' h=>hP▸h)
  clear hP
  have vE:cE (.mk op n un nm ar)=1+cT ar:=by unfold cE;rfl
  have hnl:=fN ar
  have har:ar.length≤1000000:=by omega
  have hsh2:qi op n un nm ar.length=true∧lK ar=true:=by simpa [gK]using hsh
  have HE:=aa (QC hsh2.1)
  have um:=aa (fun y (hy:y∈ar)=>ih y aZ (tC hsh2.2 y hy))
  have HA:=aa hS
  have HM1:=aa Cr
  have G2:=aa hm2
  have vK:=aa (show ∀ y∈ar,lZ y from by unfold lZ at hsm;exact hsm.2.2.mem)
  have Bh:nm.size≤maxLen:=by unfold lZ at hsm;exact hsm.2.1
  have Tw:un.size≤maxLen:=by unfold lZ at hsm;exact hsm.1
  have HL:=aa (fun y=>OV hv ht _ y aac)
  have HLf:=aa (fun W (h:Below w w W)=>UJ g1 (.map (some g2)) vs op n un nm (bW A2 ar c2) W (Cr.bZ h) hv Tw Bh)
  have HNd:=aa (fun W A c args (h:Below w w W) (hq:Sq qN W Any A args) (hl:args.length≤1000000) (hd:∀ t∈args,t.jP.length=6) (he:Ho op args.length)=>UK (.map (some g1)) g2 ts op n un nm (bW A2 ar c2) A c args W (hm2.bZ h) ht Bh hq hl hd he)
  have HOf1:=aa (fun(h:ar=[])=>(show xw vs ts (.mk op n un nm ar)=uH vs op un nm by subst h;exact XL))
  have Ma:=aa (fun(h:¬ar.length=0)=>UN (vs:=vs) (ts:=ts) (op:=op) (n:=n) (u:=un) (nm:=nm) h)
  clear hI hS Cr hm2 ih hsm hx vE hnl hsh hsh2
  generalize xw vs ts (.mk op n un nm ar)=q at HP Ma HOf1
  go_enter func201,ntmps201
  go_upto_region 1 with fail
  obtain⟨w1,hw1,K0,K1,K2,HB⟩:=nP w [.map (some g1),.map (some g2)] [.int .i64 op,.int .i64 n,bV un,bV nm,bW A2 ar c2] [.bool false,.int .i64 0,.int .i64 0,.int .i64 0,.int .i64 0,.int .i64 0,.int .i64 0] 279 47 137
  rw[hw1]
  clear hw1
  obtain⟨p,hp⟩:∃ p,p=w.heap.size:=⟨_,rfl⟩
  have uu:=aa hp
  rw[← hp]at K0 K1 K2 ⊢
  clear hp
  have fh:=aa (show p+3≤w1.heap.size by have:=K2.o.lt;omega)
  have x0:=K0.o.cell
  have x1:=K1.o.cell
  by_cases hnil:ar.length=0
  case pos=>
   have hE:ar=[]:=List.eq_nil_of_length_eq_zero hnil;have GD:=aa (HOf1.o hE);subst hE;have HLf2:=aa (HLf.o w1 HB.o);simp only[List.length_nil]at HLf2 ⊢;rw[← GD.o]at HLf2;go_wp2_with (first|(go_at_call 244;refine HLf2.o.mono ?_;rintro e w6 ⟨rfl,eO⟩;have K6:=aa (K2.o.bZ eO K2.o.lt);have eA:=aa (HB.o.trans (eO.mono HB.o.size));clear eO)|(refine cQ rfl _ _ _ rfl _ _ rfl rfl _ K6.o dS rfl rfl ?_;intro w5 K5 gp));exact DD rfl K5.o rfl rfl HP.o (cC eA.o gp aac aW)
  case neg=>
   have UO:=aa (Ma.o hnil);have z0:((ar.length:Int)==0)=false:=bG;have uD:=aa (show dO qN 137 (p+3) w1 (fun _=>False) cD []from dO.ql);clear hnil Ma HLf;go_wp2;go_loopw [6,23] (fun v s8 wr=>∃ (k:Nat) (tl:List nS),k≤ar.length∧s8=bU (k:Int)∧Hid (tl.length=k)∧Hid (AJ vs ts (ar.take k)= .inr tl)∧Hid (∀ t∈tl,t.jP.length=6)∧Hid (dO qN 137 (p+3) wr (fun _=>False) v tl)∧Hid (Below (p+3) w1 wr)) (fun _ s8 _=>ar.length - (intOf s8).toNat);(case atStart=>exact⟨0,[],aaG _,rfl,aa rfl,aa (by simp[AJ]),aa ai,uD,aa ((aaf w1 w1).mono fh.o)⟩);clear uD x0 x1;obtain⟨k,tl,hk,rfl,Has,HO,Hd,HQ,sP⟩:=hrel;have cG:=aa (show Below w w wr from HB.o.trans (sP.o.mono aW));have K0r:=aa (K0.o.bZ sP.o af);have K1r:=aa (K1.o.bZ sP.o af);have K2r:=aa (K2.o.bZ sP.o af);by_cases hlt:k<ar.length;case pos=>
    obtain⟨bl,o,cs,hA,yK,hbl,ey,cM⟩:=(HA.o.bZ cG.o).get hlt;subst hA;have hmem:=aan hlt;have XM:=aa (fun(h0:(xw vs ts ar[k]).1=0)=>UL hlt HO.o h0);have yO:=aa (fun(h0:¬(xw vs ts ar[k]).1=0)=>UM hlt HO.o h0);have AH:=um.o _ hmem (vK.o _ hmem);have HL6:=aa (HL.o ar[k]);obtain⟨eR,yn,eT,eU,A3,c3,yr,oh,hes,_⟩:=cH.parts ey;generalize ar[k]=y at ey AH oh XM yO HL6;subst hes;have g0:b_ wr bl (o+k*5) (bU eR):=cM 0 _ rfl;have g1':b_ wr bl (o+k*5+1) (bU yn):=cM 1 _ rfl;have g2':b_ wr bl (o+k*5+2) (bV eT):=cM 2 _ rfl;have g3:b_ wr bl (o+k*5+3) (bV eU):=cM 3 _ rfl;have g4:b_ wr bl (o+k*5+4) (bW A3 yr c3):=cM 4 _ rfl;have HY:=aa (show cN (wr.alloc (.cells #[bU eR,bU yn,bV eT,bV eU,bW A3 yr c3] 47)) wr 47 [bU eR,bU yn,bV eT,bV eU,bW A3 yr c3]from heap_alloc_new wr _);have fO:Below wr wr (wr.alloc (.cells #[bU eR,bU yn,bV eT,bV eU,bW A3 yr c3] 47)):=cS _;have LV:=cG.o.trans (fO.mono cG.o.size);have hcc:=AH _ _ (HM1.o.bZ LV) (G2.o.bZ LV) (di.keep ey (cB.cA fO));obtain⟨rt,hrt⟩:∃ rt,rt=(xw vs ts y).2:=⟨_,rfl⟩;obtain⟨re,wW⟩:∃ re,re=(xw vs ts y).1:=⟨_,rfl⟩;have ua:Hid (Calls prog 201 #[.agg #[.map (some g1),.map (some g2)],.agg #[bU eR,bU yn,bV eT,bV eU,bW A3 yr c3]] (wr.alloc (.cells #[bU eR,bU yn,bV eT,bV eU,bW A3 yr c3] 47)) fun e w'=>e= .returned (.tuple #[.agg #[.bool rt.truth,bU (rt.jP.getD 0 0),bU (rt.jP.getD 1 0),bU (rt.jP.getD 2 0),bU (rt.jP.getD 3 0),bU (rt.jP.getD 4 0),bU (rt.jP.getD 5 0)],bU re])∧Below (wr.alloc (.cells #[bU eR,bU yn,bV eT,bV eU,bW A3 yr c3] 47)).heap.size (wr.alloc (.cells #[bU eR,bU yn,bV eT,bV eU,bW A3 yr c3] 47)) w'):=aa (by rw[hrt,wW];exact hcc);rw[← wW, ← hrt]at XM;rw[← wW]at yO;rw[← hrt]at HL6;have HT:Hid (qd rt=[.bool rt.truth,bU (rt.jP.getD 0 0),bU (rt.jP.getD 1 0),bU (rt.jP.getD 2 0),bU (rt.jP.getD 3 0),bU (rt.jP.getD 4 0),bU (rt.jP.getD 5 0)]):=aa rfl;generalize rt.truth=bt at ua HT;generalize rt.jP.getD 0 0=t0 at ua HT;generalize rt.jP.getD 1 0=t1 at ua HT;generalize rt.jP.getD 2 0=t2 at ua HT;generalize rt.jP.getD 3 0=t3 at ua HT;generalize rt.jP.getD 4 0=t4 at ua HT;generalize rt.jP.getD 5 0=t5 at ua HT;have jy:=aa fO;clear cM ey oh fO AH LV hcc hrt wW;go_upto_region 7 with fail;generalize (wr.alloc (.cells #[bU eR,bU yn,bV eT,bV eU,bW A3 yr c3] 47))=wd at HY ua jy ⊢;clear g0 g1' g2' g3 g4;have z1:=HY.o.cell;have z2:=(K0r.o.bZ jy.o K0r.o.lt).cell;have dH:=aa (show Below (p+3) w1 wd from sP.o.trans (jy.o.mono (aaC fh.o sP.o.size)));go_upto_region 8 with(go_at_call 201;refine ua.o.mono ?_;rintro e w5 ⟨rfl,ew⟩;have dF:=aa (show Below (p+3) w1 w5 from dH.o.trans (ew.mono (aaC fh.o dH.o.size)));have HW5:=aa (show Below wr wr w5 from jy.o.trans (ew.mono jy.o.size));clear ew z1 z2);have HTy:=aa (show cN (w5.alloc (.cells #[.bool bt,bU t0,bU t1,bU t2,bU t3,bU t4,bU t5] 137)) w5 137 [.bool bt,bU t0,bU t1,bU t2,bU t3,bU t4,bU t5]from heap_alloc_new w5 _);have eA:=aa (dF.o.alloc (aaC fh.o dF.o.size) (.cells #[.bool bt,bU t0,bU t1,bU t2,bU t3,bU t4,bU t5] 137));have HW6:=aa (HW5.o.alloc HW5.o.size (.cells #[.bool bt,bU t0,bU t1,bU t2,bU t3,bU t4,bU t5] 137));generalize w5.alloc (.cells #[.bool bt,bU t0,bU t1,bU t2,bU t3,bU t4,bU t5] 137)=w6 at HTy eA HW6 ⊢;have K26:=aa (K2.o.bZ eA.o af);by_cases h0:re=0;(case neg=>have GD:=aa (show q=(re,zT) by rw[UO.o,yO.o h0];rfl);have zr:(re != 0)=true:=aS;clear h0;go_wp2_with (refine cQ rfl _ _ _ rfl _ _ rfl rfl _ K26.o dS rfl rfl ?_;intro w7 K7 uA);exact DD (q:=q) rfl (by rw[GD.o];exact K7.o) rfl (by rw[GD.o];rfl) HP.o (cC (HB.o.trans (eA.o.mono aW)) uA aac aW));have HO2:=aa (XM.o h0);subst h0;have xt:=HTy.o.cell;have Mv:=aa (show tl.length≤1000000 by have:=Has.o;omega);go_wp2_with (at_builtin;refine dz (R:=qN) (S:=fun _=>False) (xs:=tl) (ys:=[rt]) (T:=137) (t:=312) (B:=p+3) rfl (.tmp 37) (.tmp 39) 312 rfl rfl Tryz.infTyq ((HQ.o.bZ HW6.o).bZ (cS _)) rfl _ 1 1 rfl rfl ?hN ?hl ?hB rfl (n:=tl.length+1) rfl ?_);(case hN=>exact qQ.iM (R:=qN) (cs:=[_,_,_,_,_,_,_]) HT.o.symm _ rfl);(case hl=>have:=Mv.o;omega);(case hB=>have:=fh.o;have:=eA.o.size;omega);intro A9 c9 w9 Ba HG;have o_:=eA.o.alloc (aaC fh.o eA.o.size) (.cells #[.bool bt,bU t0,bU t1,bU t2,bU t3,bU t4,bU t5] 137);have je:=aa (show Below (p+3) w1 w9 from o_.grown HG.o.turn (aaC fh.o o_.size) (fun j e=>(HQ.o.lt j e).1));have XN:=aa HG.o.own;have Hd9:=aa (show ∀ t∈tl++[rt],t.jP.length=6 from fun t ht=>by
     rcases List.mem_append.1 ht with h|h
     (·exact Hd.o t h);simp at h;subst h;exact HL6.o)
    have Has9:=aa (show(tl++[rt]).length=k+1 by rw[aao,Has.o];rfl);clear o_ HG xt HQ;go_wp2;go_roundw;exact⟨k+1,tl++[rt],by omega,rfl,Has9,HO2,Hd9,XN,je⟩;simp[intOf];omega
   (obtain rfl:k=ar.length:=by omega);have hO:=HO.o;rw[List.take_length]at hO;have GD:=aa (show q=Ck.jK ts op nm tl by rw[UO.o,hO];rfl);obtain⟨A9,c9,hv9,_⟩:=HQ.o.slice;subst hv9;have HNd2:=aa (HNd.o wr A9 c9 tl cG.o (((HQ.o.mono (fun b _ (h:False)=>h.elim)).sq fun _ _ _=>trivial:Sq qN wr Any A9 tl)) (by have:=Has.o;omega) Hd.o (by rw[Has.o];exact HE.o));rw[← GD.o]at HNd2;have x0:=K0r.o.cell;have x1:=K1r.o.cell;clear hO;go_wp2_with (first|(go_at_call 245;refine HNd2.o.mono ?_;rintro e w6 ⟨rfl,eO⟩;have K6:=aa (K2r.o.bZ eO K2r.o.lt);have eA:=aa (cG.o.trans (eO.mono cG.o.size));clear eO)|(refine cQ rfl _ _ _ rfl _ _ rfl rfl _ K6.o dS rfl rfl ?_;intro w5 K5 gp));exact DD rfl K5.o rfl rfl HP.o (cC eA.o gp aac aW)
theorem Hq:∀ args w,(callFunc 199 args).run prog w= .ok (.enter 199 args) w:=enters_of func199 ah rfl
theorem QD (N:Nat) (hN:N≤1000000):∀ (x:cw),cE x≤N→∀ (w:World) (cs:List Value),cH w Any cs x→Calls prog 199 #[.agg cs.toArray] w fun e w'=>e= .returned (.bool (p_ x))∧Below w w w':=by
 induction N with
 |zero=>intro x hx;have:=dB x;omega
 |succ N ih=>
  intro x hx w cs hI
  replace ih:=ih af
  obtain⟨op,n,un,nm,A2,c2,ar,e1,e2,hS⟩:=cH.parts hI
  subst e1 e2
  have vE:cE (.mk op n un nm ar)=1+cT ar:=by unfold cE;rfl
  have hnl:=fN ar
  have HQ:Hid (p_ (.mk op n un nm ar)=((op==3)||ar.any p_)):=aa (by unfold p_;rw[lQ];rfl)
  generalize p_ (.mk op n un nm ar)=q at HQ ⊢
  have HC:=aa (fun W (hb:Below w w W)=>uy p_ 199 #[] Hq A2 c2 ar W (fun W' cs y hy ey _=>ih y aZ W' cs ey) aH (hS.bZ hb))
  have HK:=aa (show cN (w.alloc (.cells #[bU op,bU n,bV un,bV nm,bW A2 ar c2] 47)) w 47 [bU op,bU n,bV un,bV nm,bW A2 ar c2]from heap_alloc_new w _)
  have HB:=aa ((aaf w w).alloc aac (.cells #[bU op,bU n,bV un,bV nm,bW A2 ar c2] 47))
  clear hI hS ih hx vE hnl
  go_enter func199,ntmps199
  go_upto_region 1 with fail
  generalize (w.alloc (.cells #[bU op,bU n,bV un,bV nm,bW A2 ar c2] 47))=w1 at HK HB ⊢
  have x1:=HK.o.cell
  by_cases ho:op=3
  case pos=>
   subst ho;have HE:=aa (show q=true by rw[HQ.o];rfl);go_wp2;go_ret;exact⟨by rw[HE.o];rfl,HB.o⟩
  case neg=>
   have z:(op==3)=false:=bE;have HE:=aa (show q=ar.any p_ by rw[HQ.o,z,Bool.false_or]);rw[← HE.o]at HC;clear ho;go_wp2_with (go_at_call 145;refine(HC.o _ HB.o).mono ?_;rintro e w6 ⟨rfl,eO⟩;have eA:=aa (HB.o.trans (eO.mono HB.o.size));clear eO);go_ret;exact⟨rfl,eA.o⟩
end
section
open Go Go.RowKit Go.Maps Bg Go.Proofs Sh Kb Ck
section
theorem QE {l:List fF} {nm:ByteArray}:(iR l nm).isSome=true↔nm∈l.map (·.1):=by
 unfold iR;rw[Option.isSome_map,List.find?_isSome];constructor
 (·rintro⟨v,hv,e⟩;exact aat.2 ⟨v,List.mem_reverse.1 hv,eq_of_beq e⟩);intro h;obtain⟨v,hv,e⟩:=aat.1 h;exact⟨v,List.mem_reverse.2 hv,by rw[e];exact beq_self_eq_true _⟩
theorem FC (x:ByteArray):∀ (l seen:List ByteArray),ur seen (l++[x])=ur seen l+if x∈seen∨x∈l then 0 else 1
 |[],seen=>by simp[ur]
 |y :: l,seen=>by
  rw[List.cons_append,ur,ur,FC x l];have e:(x∈y :: seen∨x∈l)↔(x∈seen∨x∈y :: l):=by
   simp only[aas];constructor
   ·rintro((h|h)|h)
    (·exact .inr (.inl h))
    (·exact .inl h);exact .inr (.inr h)
   rintro(h|h|h)
   (·exact .inl (.inr h))
   (·exact .inl (.inl h));exact .inr h
  simp only[e];omega
def nC (w:World) (g:Nat) (l:List fF):Prop:=
 ∃ D:DataW Value,w.ownsMap prog 9 kX g l.length D∧Tidy D∧(∀ k:ByteArray,Maps.has D (qR k)=(iR l k).isSome)∧(∀ (k:ByteArray) d,iR l k=some d→∀ z,D.atKey (qR k) z= .held (Hh d))∧
  (∀ k:ByteArray,iR l k=none→∀ z,D.atKey (qR k) z=z)∧Maps.size D=ur [] (l.map (·.1))
section
variable {w w':World} {g:Nat} {l:List fF}
theorem nC.made (w:World):nC (w.alloc (.map #[] 0)) w []:=
 ⟨.map [],World.ownsMap_made w _ _ _,⟨[],rfl,by simp⟩,fun k=>rfl,fun k d h=>(by cases h),fun k _ z=>rfl,rfl⟩
theorem nC.lt (h:nC w g l):g<w.heap.size:=by
 obtain⟨D,h1,_⟩:=h;exact h1.lt
theorem nC.block (h:nC w g l) (hb:w'.heap[g]? =w.heap[g]?):nC w' g l:=by
 obtain⟨D,⟨es,clock,hbk,F,hs,hD⟩,h2⟩:=h;exact⟨D,⟨es,clock,hb.trans hbk,F,hs,hD⟩,h2⟩
theorem nC.bZ {B:Nat} (h:nC w g l) (hb:Below B w w') (hg:g<B):nC w' g l:=h.block (hb.block g hg)
theorem nC.alloc (h:nC w g l) (o:Obj):nC (w.alloc o) g l:=h.bZ (cS _) h.lt
theorem nC.at_ (h:nC w g l):mO w g l:=by
 obtain⟨D,h1,h2,h3,h4,h5,h6⟩:=h;refine⟨l.length,D,h1,h2.isMap,fun k=>⟨?_,fun v z hv=>?_,fun z hv=>?_⟩⟩
 (·rw[h3 k,Option.isSome_map])
 (·obtain⟨d,hd,rfl⟩:=aaH.1 hv;exact h4 k d hd z);exact h5 k (Option.map_eq_none_iff.1 hv) z
theorem nC.len (h:nC w g l) (ty:TypeId):(Builtin.len_ #[277] ty #[.map (some g)]).run prog w= .ok (bU (ur [] (l.map (·.1)):Int)) w:=by
 obtain⟨D,h1,h2,h3,h4,h5,h6⟩:=h;rw[h1.len underlying277 ty,h6]
theorem tD {ops:Array Oper} {rest:List Oper} {o:Oper} {a:Act} {Q:Exit→Act→World→Prop} (hg:o.guard=none) (m x v:Operand) (t:TypeId) (hop:o.op=Op.mapUpdate t m x v) (ht:Tryz.prog.underlying t=some (.map 9 91)) (b:Nat) (hm:a.eval m= .map (some b)) (hown:nC w b l) (hn:l.length<maxLen) (k:ByteArray) (d:List Int) (hx:a.eval x=bV k) (hv:a.eval v=Hh d) (hk:k.size≤maxLen) (hK:∀ w',Hid (nC w' b (l++[(k,d)]))→w.grownBy w' (some b)→wpList prog ops Q rest (a.put o.dst undef) w'):wpList prog ops Q (o :: rest) a w:=by
 obtain⟨D,h1,h2,h3,h4,h5,h6⟩:=hown;refine wpList_mapUpdate_own w hg m x v t hop 9 91 mD ht kX b l.length D hm h1 hn (bV k) (Hh d) (qR k) hx hv (WideMaps.keyOf_string_mk underlying9 hk) (.held (Hh d)) [] rfl (fun w' hw hgr=>hK w' (aa ⟨_,by rw[aao];exact hw,h2.put (isKey k) _,fun k'=>?_,fun k' d' hc z=>?_,fun k' hc z=>?_,?_⟩) hgr)
 ·rw[vt];by_cases hkk:k'=k
  (·subst hkk;rw[has_put_same h2.isMap (isKey k') _,if_pos (Eq.refl k'),Option.isSome_some]);rw[has_put_other (nU hkk) _,h3 k',if_neg hkk]
 ·rw[vt]at hc;by_cases hkk:k'=k
  (·subst hkk;rw[if_pos (Eq.refl k')]at hc;have hc2:=Option.some.inj hc;rw[← hc2];exact atKey_put_same h2.isMap (isKey k') _ _);rw[if_neg hkk]at hc;rw[atKey_put_other (nU hkk) _ _];exact h4 k' d' hc z
 ·rw[vt]at hc;by_cases hkk:k'=k
  (·subst hkk;rw[if_pos (Eq.refl k')]at hc;exact absurd hc (Option.some_ne_none _));rw[if_neg hkk]at hc;rw[atKey_put_other (nU hkk) _ _];exact h5 k' hc z
 rw[size_put h2 _,h3 k,h6,List.map_append,List.map_singleton,FC];have e:=QE (l:=l) (nm:=k);by_cases hm:k∈l.map (·.1)
 (·rw[e.2 hm,if_pos rfl,if_pos (.inr hm)];rfl);have:(iR l k).isSome=false:=by
  cases h:(iR l k).isSome
  (·rfl);exact absurd (e.1 h) hm
 rw[this,if_neg ai,if_neg (by simp only[List.not_mem_nil,false_or];exact hm)]
end
end
end
open Go Go.RowKit Bg Go.Proofs Sh Kb Ck
section
def nQ:Rel fF:=mg 7 (fun v=> bV v.1 :: ic v.2) (fun _=>rfl) (fun x v hv=>by simp[ic]at hv;rcases hv with rfl|rfl|rfl|rfl|rfl|rfl|rfl<;>rfl)
def RdP (vs:List fF) (ts:List fF) (ok:Bool) (w:World) (e:Ending) (w':World):Prop:=
 ∃ m1 m2:Option Nat,e= .returned (.tuple #[.agg #[.map m1,.map m2],.bool ok])∧Below w w w'∧(ok=true→∃ g1 g2,m1=some g1∧m2=some g2∧mO w' g1 vs∧mO w' g2 ts)
theorem zh:(Tryz.prog.info? 279).map (·.size)=some 2:=by kernel_rfl
theorem tE {fn:Func} (hf:fn.results=#[.cell 4 279,.tmp 5]) {P:Ending→World→Prop} {vs ts:List fF} {ok:Bool} {w w5:World} {tm:Array Value} {g:Nat} {m1 m2:Option Nat} (K5:cN w5 g 279 [.map m1,.map m2]) (hp:tm.getD 4 undef= .pointer (bY g 0)) (hv:tm.getD 5 undef= .bool ok)
 (HP:∀ e w',RdP vs ts ok w e w'→P e w') (hb:Below w w w5) (hq:ok=true→∃ g1 g2,m1=some g1∧m2=some g2∧mO w5 g1 vs∧mO w5 g2 ts):bodyPost prog fn P .ret ⟨tm,[]⟩ w5:=
 bodyPost_ret (cO hf _ _ _ 279 [.map m1,.map m2] _ _ hp hv K5 underlying279 rfl zh) rfl (HP _ _ ⟨m1,m2,rfl,hb,hq⟩)
theorem Nh {ts:List dZ} {k:Nat} (h:k<ts.length):jh (ts.take (k+1))=jh (ts.take k)++[(ts[k].name,iu ts[k].unit)]:=by
 unfold jh;rw[aaz h,List.map_append];rfl
theorem Ki {α:Type} {p:α→Bool} {l:List α} {k:Nat} (h:k<l.length) (ha:(l.take k).all p=true) (hp:p l[k]=true):(l.take (k+1)).all p=true:=by
 rw[aaz h,List.all_append,ha];simp[hp]
theorem OW {α:Type} {p:α→Bool} {l:List α} {k:Nat} (h:k<l.length) (hp:p l[k]=false):l.all p=false:=by
 rw[Bool.eq_false_iff];intro ha;have:=List.all_eq_true.1 ha _ (aan h);rw[hp]at this;cases this
structure rH (w:World) (r p:Nat) (l1 l2:List fF) (wr:World):Prop where
 k0:cN wr r 279 [.map none,.map none]
 kn:cN wr (p+1+1) 279 [.map (some p),.map (some (p+1))]
 d1:nC wr p l1
 d2:nC wr (p+1) l2
 hb:Below w w wr
 le:p+3≤wr.heap.size
 rp:r<p
 rw:r=w.heap.size
section
variable {w wr w':World} {r p:Nat} {l1 l2 l':List fF}
theorem rH.bZ (h:rH w r p l1 l2 wr) (hb:Below wr wr w'):rH w r p l1 l2 w':=
 ⟨h.k0.bZ hb h.k0.lt,h.kn.bZ hb h.kn.lt,h.d1.bZ hb h.d1.lt,h.d2.bZ hb h.d2.lt,h.hb.trans (hb.mono h.hb.size),aaC h.le hb.size,h.rp,h.rw⟩
theorem rH.alloc (h:rH w r p l1 l2 wr) (o:Obj):rH w r p l1 l2 (wr.alloc o):=h.bZ (cS _)
theorem rH.put1 (h:rH w r p l1 l2 wr) (hg:wr.grownBy w' (some p)) (hd:nC w' p l'):rH w r p l' l2 w':=
 ⟨(hg.block r h.k0.lt (fun e=>by injection e with e;have:=h.rp;omega)).trans h.k0,(hg.block _ h.kn.lt (fun e=>by injection e with e;omega)).trans h.kn,hd,h.d2.block (hg.block _ h.d2.lt (fun e=>by injection e with e;omega)),h.hb.grown hg h.hb.size (fun j e=>by cases e;have:=h.rp;have:=h.rw;omega),aaC h.le hg.size,h.rp,h.rw⟩
theorem rH.put2 (h:rH w r p l1 l2 wr) (hg:wr.grownBy w' (some (p+1))) (hd:nC w' (p+1) l'):rH w r p l1 l' w':=
 ⟨(hg.block r h.k0.lt (fun e=>by injection e with e;have:=h.rp;omega)).trans h.k0,(hg.block _ h.kn.lt (fun e=>by injection e with e;omega)).trans h.kn,h.d1.block (hg.block _ h.d1.lt (fun e=>by injection e with e;omega)),hd,h.hb.grown hg h.hb.size (fun j e=>by cases e;have:=h.rp;have:=h.rw;omega),aaC h.le hg.size,h.rp,h.rw⟩
end
theorem Bk {w:World} {ops:Array Oper} {rest:List Oper} {o:Oper} {a:Act} {Q:Exit→Act→World→Prop} (hg:o.guard=none) (m x:Operand) (t:TypeId) (hop:o.op=Op.lookup t m x true) (ht:Tryz.prog.underlying t=some (.map 9 91)) (b:Nat) {l:List fF} (h6:OT l) (hm:a.eval m= .map (some b)) (hown:nC w b l) (k:ByteArray) (hx:a.eval x=bV k) (hk:k.size≤maxLen) (hK:∀ x0 x1 x2 x3 x4 x5 is,Hid (is=(iR l k).isSome)→wpList prog ops Q rest (a.put o.dst (.tuple #[.agg #[bU x0,bU x1,bU x2,bU x3,bU x4,bU x5],.bool is])) w):wpList prog ops Q (o :: rest) a w:=by
 obtain⟨n,hM⟩:=hown.at_;cases hl:iR l k with
 |none=>exact jl _ hg m x t hop 91 ht (qM _) b n _ hm hM k hx hk (by rw[hl];rfl) (hK 0 0 0 0 0 0 false (aa (by rw[hl];rfl)))
 |some d=>
  obtain⟨d0,d1,d2,d3,d4,d5,rfl⟩:=six (h6 k d hl);exact iE _ hg m x t hop 91 ht (qM _) b n _ hm hM k hx hk _ (by rw[hl];rfl) (hK d0 d1 d2 d3 d4 d5 true (aa (by rw[hl];rfl)))
theorem DF {l:List fF} (h:∀ v∈l,v.2.length=6):OT l:=fun nm d hd=>by
 unfold iR at hd;obtain⟨v,hv,rfl⟩:=aaH.1 hd;exact h v (List.mem_reverse.1 (List.mem_of_find?_eq_some hv))
def UQ (t:dZ):Prop:=t.name.size≤maxLen∧t.unit.size≤maxLen∧t.rows.length≤maxLen
theorem UR (VA TA:Option Addr) (vc tc:Nat) (vs:List fF) (ts:List dZ) (w:World) (hs:Sq nQ w Any VA vs) (ht:Sq mG w Any TA ts) (hvl:vs.length≤1000000) (htl:ts.length≤1000000) (UU:∀ v∈vs,v.2.length=6∧v.1.size≤maxLen) (hts:∀ t∈ts,UQ t):Calls prog 200 #[bW VA vs vc,bW TA ts tc] w (RdP vs (jh ts) (xe vs ts) w):=by
 generalize hP:RdP vs (jh ts) (xe vs ts) w=P;have HP:=aa (show ∀ e w',RdP vs (jh ts) (xe vs ts) w e w'→P e w' from fun e w' h=>hP▸h);clear hP;have HR:Hid (xe vs ts=(vs.all MZ&&ts.all (Qh vs)&&ur [] (vs.map (·.1))==vs.length&&ur [] (ts.map (·.name))==ts.length)):=aa rfl;generalize xe vs ts=q at HP HR;have HS:=aa hs;have HT:=aa ht;have HV6:=aa UU;have HTs:=aa hts;obtain⟨n,hn⟩:∃ n,n=vs.length:=⟨_,rfl⟩;have HN:=aa hn;rw[← hn]at hvl ⊢;obtain⟨m,hm⟩:∃ m,m=ts.length:=⟨_,rfl⟩;have HM:=aa hm;rw[← hm]at htl ⊢;clear hs ht UU hts hn hm;go_enter func200,ntmps200;go_upto_region 1 with fail;have K0:=aa (show cN (w.alloc (.cells #[.map none,.map none] 279)) w 279 [.map none,.map none]from heap_alloc_new w _);have iD:=aa ((aaf w w).alloc aac (.cells #[.map none,.map none] 279));have Rq:=aa (aaI w (.cells #[.map none,.map none] 279));generalize w.alloc (.cells #[.map none,.map none] 279)=w0 at K0 iD Rq ⊢;have hmm:=@run_makeMap prog;go_upto_region 2 with fail;have HA:=aa (show rH w w w0 [] [] (((w0.alloc (.map #[] 0)).alloc (.map #[] 0)).alloc (.cells #[.map (some w0.heap.size),.map (some (w0+1))] 279))from
  ⟨((K0.o.alloc _).alloc _).alloc _,by have h:=heap_alloc_new ((w0.alloc (.map #[] 0)).alloc (.map #[] 0)) (.cells #[.map (some w0.heap.size),.map (some (w0+1))] 279);rw[aaI,aaI]at h;exact h,
   ((nC.made w0).alloc _).alloc _,by have h:=(nC.made (w0.alloc (.map #[] 0))).alloc (.cells #[.map (some w0.heap.size),.map (some (w0+1))] 279);rw[aaI]at h;exact h,
   ((iD.o.alloc iD.o.size _).alloc (by rw[aaI];have:=iD.o.size;omega) _).alloc (by rw[aaI,aaI];have:=iD.o.size;omega) _,by rw[aaI,aaI,aaI];omega,by have:=Rq.o;omega,rfl⟩)
 generalize (((w0.alloc (.map #[] 0)).alloc (.map #[] 0)).alloc (.cells #[.map (some w0.heap.size),.map (some (w0+1))] 279))=w1 at HA ⊢;generalize w0.heap.size=p at HA ⊢;clear K0 iD Rq hmm;obtain⟨r,hr⟩:∃ r,r=w.heap.size:=⟨_,rfl⟩;rw[← hr]at HA ⊢;clear hr;go_wp2;go_loopw [20] (fun v wr=>∃ k:Nat,k≤n∧v=bU (k:Int)∧Hid ((vs.take k).all MZ=true)∧Hid (rH w r p (vs.take k) [] wr)) (fun v _=>n - (intOf v).toNat);(case atStart=>exact⟨0,aaG _,rfl,aa ai,HA⟩);clear HA;obtain⟨k,hk,rfl,UW,HA⟩:=hrel;by_cases hlt:k<n;case pos=>
  (have nO:k<vs.length:=by have:=HN.o;omega);obtain⟨bl,o,cs,hA,_,hbl,hcs,cM⟩:=(HS.o.bZ HA.o.hb).get nO;subst hA;have UU:=HV6.o _ (aan nO);have XO:=aa (fun(h:MZ vs[k]=true)=>Ki nO UW.o h);have XP:=aa (fun(h:MZ vs[k]=false)=>OW nO h);have nZ:=aa (show vs.take (k+1)=vs.take k++[vs[k]]from aaz nO);generalize vs[k]=y at hcs UU XO XP nZ;obtain⟨nm,d⟩:=y;obtain⟨d0,d1,d2,d3,d4,d5,rfl⟩:=six UU.1;have hnm:nm.size≤maxLen:=UU.2;have hcs:cs=[bV nm,bU d0,bU d1,bU d2,bU d3,bU d4,bU d5]:=hcs;subst hcs;have g0:b_ wr bl (o+k*7) (bV nm):=cM 0 _ rfl;have g1:b_ wr bl (o+k*7+1) (bU d0):=cM 1 _ rfl;have g2:b_ wr bl (o+k*7+2) (bU d1):=cM 2 _ rfl;have g3:b_ wr bl (o+k*7+3) (bU d2):=cM 3 _ rfl;have g4:b_ wr bl (o+k*7+4) (bU d3):=cM 4 _ rfl;have g5:b_ wr bl (o+k*7+5) (bU d4):=cM 5 _ rfl;have g6:b_ wr bl (o+k*7+6) (bU d5):=cM 6 _ rfl;clear cM UU;go_upto_region 5 with fail;have rY:=aa (HA.o.alloc (.cells #[bV nm,bU d0,bU d1,bU d2,bU d3,bU d4,bU d5] 158));have KV:=aa (show cN (wr.alloc (.cells #[bV nm,bU d0,bU d1,bU d2,bU d3,bU d4,bU d5] 158)) wr 158 [bV nm,bU d0,bU d1,bU d2,bU d3,bU d4,bU d5]from heap_alloc_new wr _);generalize wr.alloc (.cells #[bV nm,bU d0,bU d1,bU d2,bU d3,bU d4,bU d5] 158)=wx at rY KV ⊢;clear g0 g1 g2 g3 g4 g5 g6 hbl;have xv:=KV.o.cell;have HLx:=aa (fun W=>si nm W hnm);have Lg:=aa (fun W=>sk nm W);have BG:=aa (fun W=>mK d0 d1 d2 d3 d4 d5 W);have Lj:Hid (MZ (nm,[d0,d1,d2,d3,d4,d5])=(kD nm.data.toList&& !rL nm&&dN [d0,d1,d2,d3,d4,d5])):=aa rfl;generalize kD nm.data.toList=bn at HLx Lj;generalize rL nm=bw at Lg Lj;generalize dN [d0,d1,d2,d3,d4,d5]=bd at BG Lj;have hcs3:(bn=false∨bw=true∨bd=false)∨(bn=true∧bw=false∧bd=true):=(by cases bn<;>cases bw<;>cases bd<;>simp);rcases hcs3 with hf|⟨rfl,rfl,rfl⟩;case inl=>
   have HE:=aa (show q=false by
    rw[HR.o,XP.o (by rw[Lj.o];rcases hf with h|h|h<;>simp[h])];rfl)
   clear XO XP Lj
   cases bn
   case' true=>
    cases bw
    case' false=>
     have hbd:bd=false:=by simpa using hf
     subst hbd
   all_goals (
    clear hf
    go_wp2_with (first|(go_at_call 117;refine(HLx.o _).mono ?_;rintro e w' ⟨rfl,rfl⟩)|(go_at_call 118;refine(Lg.o _).mono ?_;rintro e w' ⟨rfl,rfl⟩)|(go_at_call 140;refine(BG.o _).mono ?_;rintro e w6 ⟨rfl,eO⟩;replace rY:=aa (rY.o.bZ eO);clear eO)|(refine cQ rfl _ _ _ rfl _ _ rfl rfl _ rY.o.k0 zh rfl rfl ?_;intro w7 K7 uA))
    exact tE (vs:=vs) (ts:=jh ts) (ok:=q) rfl K7.o rfl aV HP.o (cC rY.o.hb uA aac (by have:=rY.o.rw;omega)) (fun h=>by rw[HE.o]at h;cases h))
  have zR:=aa (XO.o (by rw[Lj.o];rfl));clear XO XP Lj;have xn:=rY.o.kn.cell;have HKl:=aa (show(vs.take k).length<maxLen by rw[aaq];unfold maxLen;omega);go_wp2_with (first|(go_at_call 117;refine(HLx.o _).mono ?_;rintro e w' ⟨rfl,rfl⟩)|(go_at_call 118;refine(Lg.o _).mono ?_;rintro e w' ⟨rfl,rfl⟩)|(go_at_call 140;refine(BG.o _).mono ?_;rintro e w6 ⟨rfl,eO⟩;replace rY:=aa (rY.o.bZ eO);have xv6:=(KV.o.bZ eO KV.o.lt).cell;have xn6:=rY.o.kn.cell;clear eO xv xn)|(refine tD rfl _ _ _ _ rfl underlying277 p rfl rY.o.d1 HKl.o nm [d0,d1,d2,d3,d4,d5] rfl rfl hnm ?_;intro w8 HD8 VL));have LX:=aa (show rH w r p (vs.take (k+1)) [] w8 by rw[nZ.o];exact rY.o.put1 VL HD8.o);clear HD8 VL xv6 xn6;go_wp2;go_roundw;exact⟨k+1,by omega,rfl,zR,LX⟩;simp[intOf];omega
 (obtain rfl:k=n:=by omega);have hfull:vs.take k=vs:=aax aC;rw[hfull]at HA UW;have HSix:=aa (DF fun v hv=>(HV6.o v hv).1);clear hfull hlt hk;go_wp2_with fail;have ZZ:=aa (show rH w r p vs (jh (ts.take 0)) wr from HA.o);clear HA;go_loopw [49] (fun v wi=>∃ j:Nat,j≤m∧v=bU (j:Int)∧Hid ((ts.take j).all (Qh vs)=true)∧Hid (rH w r p vs (jh (ts.take j)) wi)) (fun v _=>m - (intOf v).toNat);(case atStart=>exact⟨0,aaG _,rfl,aa ai,ZZ⟩);clear ZZ;obtain⟨j,hj,rfl,HAj,HA⟩:=hrel;by_cases hlt:j<m;case pos=>
  (have hjl:j<ts.length:=by have:=HM.o;omega);obtain⟨bl,o,cs,hA,_,hbl,⟨Ar,cr,hcs,hrows⟩,cM⟩:=(HT.o.bZ HA.o.hb).get hjl;subst hA hcs;have hsm:=HTs.o _ (aan hjl);have XO:=aa (fun(h:Qh vs ts[j]=true)=>Ki hjl HAj.o h);have XP:=aa (fun(h:Qh vs ts[j]=false)=>OW hjl h);have nZ:=aa (Nh hjl);generalize ts[j]=t at hsm XO XP nZ hrows cM;obtain⟨nm,un,rows⟩:=t;obtain⟨hnm,hun,hrl⟩:=hsm;dsimp only at hnm hun hrl hrows cM nZ;have g0:b_ wr bl (o+j*3) (bV nm):=cM 0 _ rfl;have g1:b_ wr bl (o+j*3+1) (bV un):=cM 1 _ rfl;have g2:b_ wr bl (o+j*3+2) (bW Ar rows cr):=cM 2 _ rfl;have HRows:=aa hrows;clear cM hrows;go_upto_region 12 with fail;have rY:=aa (HA.o.alloc (.cells #[bV nm,bV un,bW Ar rows cr] 65));have KT:=aa (show cN (wr.alloc (.cells #[bV nm,bV un,bW Ar rows cr] 65)) wr 65 [bV nm,bV un,bW Ar rows cr]from heap_alloc_new wr _);have Ni:=aa (show Below wr wr (wr.alloc (.cells #[bV nm,bV un,bW Ar rows cr] 65))from cS _);generalize wr.alloc (.cells #[bV nm,bV un,bW Ar rows cr] 65)=wx at rY KT Ni ⊢;clear g0 g1 g2 hbl;have xt:=KT.o.cell;have qK:=aa (fun W=>n9 un W hun);go_upto_region 13 with(go_at_call 84;refine(qK.o _).mono ?_;rintro e w6 ⟨d0,d1,d2,d3,d4,d5,s',A,nn,c,tt,B,mq,cc,rfl,hd,_,eO⟩;have HD:=aa (show iu un=[d0,d1,d2,d3,d4,d5]from hd);have Yr:=aa (rY.o.bZ eO);have KT6:=aa (KT.o.bZ eO KT.o.lt);have eA:=aa (Ni.o.trans (eO.mono Ni.o.size));clear eO hd xt);have WD:=aa (Yr.o.alloc (.cells #[bU d0,bU d1,bU d2,bU d3,bU d4,bU d5,bU s',bW A nn c,bU tt,bW B mq cc] 165));have KT7:=aa (KT6.o.alloc (.cells #[bU d0,bU d1,bU d2,bU d3,bU d4,bU d5,bU s',bW A nn c,bU tt,bW B mq cc] 165));have ko:=aa (eA.o.alloc eA.o.size (.cells #[bU d0,bU d1,bU d2,bU d3,bU d4,bU d5,bU s',bW A nn c,bU tt,bW B mq cc] 165));have KU7:=aa (show cN (w6.alloc (.cells #[bU d0,bU d1,bU d2,bU d3,bU d4,bU d5,bU s',bW A nn c,bU tt,bW B mq cc] 165)) w6 165 [bU d0,bU d1,bU d2,bU d3,bU d4,bU d5,bU s',bW A nn c,bU tt,bW B mq cc]from heap_alloc_new w6 _);generalize w6.alloc (.cells #[bU d0,bU d1,bU d2,bU d3,bU d4,bU d5,bU s',bW A nn c,bU tt,bW B mq cc] 165)=w7 at WD KT7 ko KU7 ⊢;clear Yr KT6 eA;have xt:=KT7.o.cell;have xn:=WD.o.kn.cell;go_upto_region 14 with(refine Bk rfl _ _ _ rfl underlying277 p HSix.o rfl WD.o.d1 nm rfl hnm ?_;intro x0 x1 x2 x3 x4 x5 is HIs);have Mb:=aa (WD.o.alloc (.cells #[bU x0,bU x1,bU x2,bU x3,bU x4,bU x5] 91));have KT8:=aa (KT7.o.alloc (.cells #[bU x0,bU x1,bU x2,bU x3,bU x4,bU x5] 91));have lD:=aa (ko.o.alloc ko.o.size (.cells #[bU x0,bU x1,bU x2,bU x3,bU x4,bU x5] 91));have KU8:=aa (KU7.o.alloc (.cells #[bU x0,bU x1,bU x2,bU x3,bU x4,bU x5] 91));generalize w7.alloc (.cells #[bU x0,bU x1,bU x2,bU x3,bU x4,bU x5] 91)=w8 at Mb KT8 lD KU8 ⊢;clear xt xn WD KT7 ko KU7;have xt:=KT8.o.cell;have HTb:=aa (AB nm un Ar cr rows w8 hnm hun hrl (HRows.o.bZ lD.o));have Lg:=aa (fun W=>sk nm W);have Lj:Hid (Qh vs ⟨nm,un,rows⟩=((jI un).1==0&&(iR vs nm).isNone&&gG ⟨nm,un,rows⟩&& !rL nm)):=aa rfl;have hno:(iR vs nm).isNone= !is:=(by rw[HIs.o];cases iR vs nm<;>rfl);rw[hno]at Lj;clear hno HIs;generalize (jI un).1=re at Lj ⊢;generalize gG ⟨nm,un,rows⟩=bt at HTb Lj;generalize rL nm=bw at Lg Lj;have hcs3:(is=true∨¬re=0∨bt=false∨bw=true)∨(is=false∧re=0∧bt=true∧bw=false):=by
   by_cases h:re=0
   (·cases is<;>cases bt<;>cases bw<;>simp[h]);exact .inl (.inr (.inl h))
  rcases hcs3 with hf|⟨rfl,rfl,rfl,rfl⟩;case inl=>
   have HE:=aa (show q=false by
    have hnt:=XP.o (by rw[Lj.o];rcases hf with h|h|h|h<;>simp[h]);rw[HR.o,hnt];cases vs.all MZ<;>rfl)
   clear XO XP Lj nZ
   cases is
   case' false=>
    by_cases wW:re=0
    case' pos=>
     subst wW
     cases bt
     case' true=>
      have fO:bw=true:=by simpa using hf
      subst fO
    case' neg=>
     have zr:(re != 0)=true:=by simpa using wW
     clear wW
   all_goals (
    clear hf
    go_wp2_with (first|(go_at_call 121;refine HTb.o.mono ?_;rintro e w9 ⟨rfl,l9⟩;replace Mb:=aa (Mb.o.bZ l9);have xt9:=(KT8.o.bZ l9 KT8.o.lt).cell;clear l9 xt)|(go_at_call 118;refine(Lg.o _).mono ?_;rintro e w' ⟨rfl,rfl⟩)|(refine cQ rfl _ _ _ rfl _ _ rfl rfl _ Mb.o.k0 zh rfl rfl ?_;intro wk K7 uA))
    exact tE (vs:=vs) (ts:=jh ts) (ok:=q) rfl K7.o rfl aV HP.o (cC Mb.o.hb uA aac (by have:=Mb.o.rw;omega)) (fun h=>by rw[HE.o]at h;cases h))
  have ZM:=aa (XO.o (by rw[Lj.o];rfl));have HKl:=aa (show(jh (ts.take j)).length<maxLen by unfold jh;rw[List.length_map,aaq];unfold maxLen;omega);clear XO XP Lj;go_wp2_with (first|(go_at_call 121;refine HTb.o.mono ?_;rintro e w9 ⟨rfl,l9⟩;replace Mb:=aa (Mb.o.bZ l9);have xt9:=(KT8.o.bZ l9 KT8.o.lt).cell;have xu9:=(KU8.o.bZ l9 KU8.o.lt).cell;have xn9:=Mb.o.kn.cell;clear l9 xt)|(go_at_call 118;refine(Lg.o _).mono ?_;rintro e w' ⟨rfl,rfl⟩)|(refine tD rfl _ _ _ _ rfl underlying277 (p+1) rfl Mb.o.d2 HKl.o nm [d0,d1,d2,d3,d4,d5] rfl rfl hnm ?_;intro wk HD8 VL));have LX:=aa (show rH w r p vs (jh (ts.take (j+1))) wk by rw[nZ.o];show rH w r p vs (jh (ts.take j)++[(nm,iu un)]) wk;rw[HD.o];exact Mb.o.put2 VL HD8.o);clear HD8 VL xt9 xu9 xn9;go_wp2;go_roundw;exact⟨j+1,by omega,rfl,ZM,LX⟩;simp[intOf];omega
 (obtain rfl:j=m:=by omega);have hfull:ts.take j=ts:=aax (by have:=HM.o;omega);rw[hfull]at HA HAj;have hl1:=HA.o.d1.len;have hl2:=HA.o.d2.len;have hnm2:(jh ts).map (·.1)=ts.map (·.name):=(by unfold jh;rw[List.map_map];rfl);rw[hnm2]at hl2;have HQ:=aa (show q=(ur [] (vs.map (·.1))==k&&ur [] (ts.map (·.name))==j) by rw[HR.o,UW.o,HAj.o, ← HN.o, ← HM.o];rfl);generalize ur [] (vs.map (·.1))=c1 at hl1 HQ;generalize ur [] (ts.map (·.name))=c2 at hl2 HQ;have xn:=HA.o.kn.cell;clear hfull hlt hj hnm2 HR;by_cases e1:c1=k;(case neg=>have HE:=aa (show q=false by rw[HQ.o];simp[e1]);have z1:((c1:Int)==(k:Int))=false:=bG;clear e1 HQ hl2;go_wp2_with (refine cQ rfl _ _ _ rfl _ _ rfl rfl _ HA.o.k0 zh rfl rfl ?_;intro wk K7 uA);exact tE (vs:=vs) (ts:=jh ts) (ok:=q) rfl K7.o rfl aV HP.o (cC HA.o.hb uA aac (by have:=HA.o.rw;omega)) (fun h=>by rw[HE.o]at h;cases h));by_cases e2:c2=j;(case neg=>have HE:=aa (show q=false by rw[HQ.o];simp[e2]);have z1:((c1:Int)==(k:Int))=true:=(by rw[e1];exact beq_self_eq_true _);have z2:((c2:Int)==(j:Int))=false:=bG;clear e1 e2 HQ;go_wp2_with (refine cQ rfl _ _ _ rfl _ _ rfl rfl _ HA.o.k0 zh rfl rfl ?_;intro wk K7 uA);exact tE (vs:=vs) (ts:=jh ts) (ok:=q) rfl K7.o rfl aV HP.o (cC HA.o.hb uA aac (by have:=HA.o.rw;omega)) (fun h=>by rw[HE.o]at h;cases h));have HE:=aa (show q=true by rw[HQ.o];simp[e1,e2]);have z1:((c1:Int)==(k:Int))=true:=(by rw[e1];exact beq_self_eq_true _);have z2:((c2:Int)==(j:Int))=true:=(by rw[e2];exact beq_self_eq_true _);clear e1 e2 HQ;go_wp2_with (refine cQ rfl _ _ _ rfl _ _ rfl rfl _ HA.o.k0 zh rfl rfl ?_;intro wk K7 uA);have hrp:=HA.o.rp;exact tE (vs:=vs) (ts:=jh ts) (ok:=q) rfl K7.o rfl aV HP.o (cC HA.o.hb uA aac (by have:=HA.o.rw;omega)) (fun _=>⟨p,p+1,rfl,rfl,(HA.o.d1.block (uA.block p HA.o.d1.lt (fun e=>by injection e with e;omega))).at_,(HA.o.d2.block (uA.block (p+1) HA.o.d2.lt (fun e=>by injection e with e;omega))).at_⟩)
end
theorem inf_Of (x:cw) (cs:List Value) (hx:cE x≤1000000) (hsm:lZ x) (VA TA:Option Addr) (vc tc:Nat) (vs:List fF) (ts:List dZ) (w:World) (hI:cH w Any cs x) (hs:Sq nQ w Any VA vs) (ht:Sq mG w Any TA ts) (hvl:vs.length≤1000000) (htl:ts.length≤1000000) (UU:∀ v∈vs,v.2.length=6∧v.1.size≤maxLen) (hts:∀ t∈ts,UQ t):Calls prog 135 #[.agg cs.toArray,bW VA vs vc,bW TA ts tc] w (AL (jf vs ts x) w):=by
 generalize hP:AL (jf vs ts x) w=P;have HP:=aa (show ∀ e w',AL (jf vs ts x) w e w'→P e w' from fun e w' h=>hP▸h);clear hP;have HR:Hid (jf vs ts x=(if fB x=false∨p_ x=true then(2,zT)else if xe vs ts then xw vs (jh ts) x else(1,zT):Int×nS)):=aa rfl;have fH:=aa (fun W (h:Below w w W)=>qm x cs W (di.keep hI (cB.cA h)) hsm);have VV:=aa (fun W (h:Below w w W)=>QD (cE x) hx x aac W cs (di.keep hI (cB.cA h)));have qK:=aa (fun W (h:Below w w W)=>UR VA TA vc tc vs ts W (hs.bZ h) (ht.bZ h) hvl htl UU hts);have h6t:OT (jh ts):=DF fun v hv=>by
  unfold jh at hv;obtain⟨t,_,rfl⟩:=aat.1 hv;exact kj t.unit
 have Ma:=aa (fun g1 g2 W (hr:fB x=true) (h:Below w w W) h1 h2=>inf_of g1 g2 vs (jh ts) (DF fun v hv=>(UU v hv).1) h6t (cE x) hx x aac (by unfold fB at hr;simp at hr;exact hr.2) hsm W cs h1 h2 (di.keep hI (cB.cA h)));obtain⟨op,n,un,nm,A2,c2,ar,e1,e2,hS⟩:=cH.parts hI;rw[e2]at fH VV Ma ⊢;clear hI hS e2 hsm hx h6t hs ht UU hts;generalize vs.length=lv at qK hvl ⊢;generalize ts.length=lt at qK htl ⊢;generalize ar.length=la at fH VV Ma ⊢;generalize jf vs ts x=q at HP HR;go_enter func135,ntmps135;go_upto_region 1 with fail;obtain⟨w1,hw1,K0,K1,HB⟩:=Dr w [.int .i64 op,.int .i64 n,bV un,bV nm,bW A2 la c2] [.bool false,.int .i64 0,.int .i64 0,.int .i64 0,.int .i64 0,.int .i64 0,.int .i64 0] 47 137;rw[hw1];clear hw1;have x0:=K0.o.cell;cases hr:fB x;(case false=>have HE:=aa (show q=(2,zT) by rw[HR.o,if_pos (.inl hr)]);rw[hr]at fH;clear hr HR Ma qK;go_wp2_with (first|(go_at_call 86;refine(fH.o _ HB.o).mono ?_;rintro e w6 ⟨rfl,eO⟩;have K6:=aa (K1.o.bZ eO K1.o.lt);have eA:=aa (HB.o.trans (eO.mono HB.o.size));clear eO)|(refine cQ rfl _ _ _ rfl _ _ rfl rfl _ K6.o dS rfl rfl ?_;intro w5 K5 gp));exact lY (q:=q) rfl bQ rfl aV HP.o (cC eA.o gp aac af));have UO:=aa (fun g1 g2 W h h1 h2=>Ma.o g1 g2 W hr h h1 h2);rw[hr]at fH;clear Ma;cases hc:p_ x;(case true=>have HE:=aa (show q=(2,zT) by rw[HR.o,if_pos (.inr hc)]);rw[hc]at VV;clear hc hr HR UO qK;go_wp2_with (first|(go_at_call 86;refine(fH.o _ HB.o).mono ?_;rintro e w6 ⟨rfl,eO⟩;have K6:=aa (K1.o.bZ eO K1.o.lt);have x6:=(K0.o.bZ eO K0.o.lt).cell;have eA:=aa (HB.o.trans (eO.mono HB.o.size));clear eO x0)|(go_at_call 199;refine(VV.o _ eA.o).mono ?_;rintro e w7 ⟨rfl,nE⟩;have K7:=aa (K6.o.bZ nE K6.o.lt);have ko:=aa (eA.o.trans (nE.mono eA.o.size));clear nE x6)|(refine cQ rfl _ _ _ rfl _ _ rfl rfl _ K7.o dS rfl rfl ?_;intro w5 K5 gp));exact lY (q:=q) rfl bQ rfl aV HP.o (cC ko.o gp aac af));case false=>
  replace HR:=aa (show q=(if xe vs ts then xw vs (jh ts) x else(1,zT):Int×nS) by rw[HR.o,if_neg (by rw[hr,hc];simp)])
  rw[hc]at VV
  clear hc hr
  go_upto_region 3 with(first|(go_at_call 86;refine(fH.o _ HB.o).mono ?_;rintro e w6 ⟨rfl,eO⟩;have K6:=aa (K1.o.bZ eO K1.o.lt);have K06:=aa (K0.o.bZ eO K0.o.lt);have x6:=K06.o.cell;have eA:=aa (HB.o.trans (eO.mono HB.o.size));clear eO x0)|(go_at_call 199;refine(VV.o _ eA.o).mono ?_;rintro e w7 ⟨rfl,nE⟩;have K7:=aa (K6.o.bZ nE K6.o.lt);have K07:=aa (K06.o.bZ nE K06.o.lt);have ko:=aa (eA.o.trans (nE.mono eA.o.size));clear nE x6))
  clear K6 K06 eA fH VV K0 K1 HB
  go_upto_region 4 with(go_at_call 200;refine(qK.o _ ko.o).mono ?_;rintro e w8 ⟨m1,m2,rfl,o_,hq8⟩)
  have HQ8:=aa hq8
  have K8:=aa ((K7.o.bZ o_ K7.o.lt).alloc (.cells #[.map m1,.map m2] 279))
  have K08:=aa ((K07.o.bZ o_ K07.o.lt).alloc (.cells #[.map m1,.map m2] 279))
  have KN8:=aa (show cN (w8.alloc (.cells #[.map m1,.map m2] 279)) w8 279 [.map m1,.map m2]from heap_alloc_new w8 _)
  have lD:=aa (ko.o.trans (o_.mono ko.o.size))
  have je:=aa (lD.o.alloc lD.o.size (.cells #[.map m1,.map m2] 279))
  have Mv:=aa ((aaf w8 w8).alloc aac (.cells #[.map m1,.map m2] 279))
  generalize w8.alloc (.cells #[.map m1,.map m2] 279)=w9 at K8 K08 KN8 je Mv ⊢
  clear hq8 o_ K7 K07 ko qK
  have x8:=K08.o.cell
  have xn:=KN8.o.cell
  cases hrd:xe vs ts
  case false=>
   have HE:=aa (show q=(1,zT) by rw[HR.o,hrd];rfl);clear hrd;go_wp2_with (refine cQ rfl _ _ _ rfl _ _ rfl rfl _ K8.o dS rfl rfl ?_;intro w5 K5 gp);exact lY (q:=q) rfl bQ rfl aV HP.o (cC je.o gp aac af)
  case true=>
   have HE:=aa (show q=xw vs (jh ts) x by rw[HR.o,hrd];rfl);obtain⟨g1,g2,rfl,rfl,hd1,hd2⟩:=HQ8.o hrd;have HC:=aa (UO.o g1 g2 w9 je.o (hd1.bZ Mv.o) (hd2.bZ Mv.o));rw[← HE.o]at HC;clear hrd hd1 hd2;go_wp2_with (first|(go_at_call 201;refine HC.o.mono ?_;rintro e w6 ⟨rfl,eO⟩;have K6:=aa (K8.o.bZ eO K8.o.lt);have eA:=aa (je.o.trans (eO.mono je.o.size));clear eO)|(refine cQ rfl _ _ _ rfl _ _ rfl rfl _ K6.o dS rfl rfl ?_;intro w5 K5 gp));exact lY rfl K5.o rfl rfl HP.o (cC eA.o gp aac af)
theorem tF (s:ByteArray) (hs:s.size≤maxLen) (w:World):Calls prog 40 #[bV s] w fun e w'=>e= .returned (.agg (ic (iu s)).toArray)∧Below w w w':=by
 have qK:=aa (fun W=>n9 s W hs);clear hs;go_enter func40,ntmps40;go_upto_region 1 with fail;have K0:=aa (show cN (w.alloc (.cells #[bU 0,bU 0,bU 0,bU 0,bU 0,bU 0] 91)) w 91 [bU 0,bU 0,bU 0,bU 0,bU 0,bU 0]from heap_alloc_new w _);have HB:=aa ((aaf w w).alloc aac (.cells #[bU 0,bU 0,bU 0,bU 0,bU 0,bU 0] 91));generalize w.alloc (.cells #[bU 0,bU 0,bU 0,bU 0,bU 0,bU 0] 91)=w1 at K0 HB ⊢;go_upto_region 2 with(go_at_call 84;refine(qK.o _).mono ?_;rintro e w6 ⟨d0,d1,d2,d3,d4,d5,s',A,nn,c,t,B,m,cc,rfl,hd,_,eO⟩;have K6:=aa (K0.o.bZ eO K0.o.lt);have eA:=aa (HB.o.trans (eO.mono HB.o.size));have HD:=aa (show iu s=[d0,d1,d2,d3,d4,d5]from hd);clear eO hd);have K3:=aa (K6.o.alloc (.cells #[bU d0,bU d1,bU d2,bU d3,bU d4,bU d5,bU s',bW A nn c,bU t,bW B m cc] 165));have eF:=aa (eA.o.alloc eA.o.size (.cells #[bU d0,bU d1,bU d2,bU d3,bU d4,bU d5,bU s',bW A nn c,bU t,bW B m cc] 165));have KD:=aa (show cN (w6.alloc (.cells #[bU d0,bU d1,bU d2,bU d3,bU d4,bU d5,bU s',bW A nn c,bU t,bW B m cc] 165)) w6 165 [bU d0,bU d1,bU d2,bU d3,bU d4,bU d5,bU s',bW A nn c,bU t,bW B m cc]from heap_alloc_new w6 _);generalize w6.alloc (.cells #[bU d0,bU d1,bU d2,bU d3,bU d4,bU d5,bU s',bW A nn c,bU t,bW B m cc] 165)=w3 at K3 eF KD ⊢;have xd:=KD.o.cell;go_wp2_with (refine cQ rfl _ _ _ rfl _ _ rfl rfl _ K3.o fI rfl rfl ?_;intro w5 K5 gp);exact bodyPost_ret (results_cell_row rfl _ _ w 91 #[bU d0,bU d1,bU d2,bU d3,bU d4,bU d5] (0,0) _ rfl K5.o underlying91 rfl fI) rfl ⟨by rw[HD.o];rfl,cC eF.o gp aac aac⟩
structure vB (fs:List cL) (tabs:List dZ):Prop where
 X:∃ r,wP fs (rU fs) r
 F:yu fs
 ck:gU fs=0
 sf:∀ f∈fs,lZ f.body
 tl:tabs.length≤1000000
 ts:∀ t∈tabs,UQ t
def vC (vs:List fF):Prop:=vs.length≤1000000∧∀ v∈vs,v.2.length=6∧v.1.size≤maxLen
noncomputable abbrev XE (fs:List cL):cw→Int×cw:=gy fs (rU fs)
theorem FD {fs:List cL} {tabs:List dZ} (h:vB fs tabs) {x:cw} (hr:fB x=true) (h0:(XE fs x).1=0):lZ (XE fs x).2∧cE (XE fs x).2≤200:=by
 obtain⟨r,hX⟩:=h.X;unfold XE gy at h0 ⊢;cases hu:dK (j7 fs) x with
 |true=>rw[hu]at h0;simp at h0
 |false=>
  rw[hu]at h0;cases hv:dK (j8 fs) x with
  |true=>rw[hv]at h0;simp at h0
  |false=>
   rw[hv]at h0;cases hf:(eZ (rU fs) fs x).full with
   |true=>rw[hf]at h0;simp at h0
   |false=>
    simp only[Bool.false_eq_true,if_false];refine⟨GH _ _ aac (gN hr).1 fun j hj=>TD hX h.sf _ j (sX _ _ aac hu j hj) (Nat.lt_succ_self _),?_⟩;have h1:=wM (G:=rU fs) (fs:=fs) x hf;have h2:=ue (G:=rU fs) (fs:=fs) x;unfold pX at h2;omega
theorem pS {x:cw} (h:fB x=true):cE x≤1000000:=by
 unfold fB at h;simp at h;omega
theorem rI {fn:Func} (hf:fn.results=#[.cell 4 91,.tmp 5]) {P:Ending→World→Prop} {q:Int×List Int} {w w5:World} {tm:Array Value} {g:Nat} (K5:cN w5 g 91 (ic q.2)) (hp:tm.getD 4 undef= .pointer (bY g 0)) (hv:tm.getD 5 undef=bU q.1)
 (HP:∀ e w',tA q w e w'→P e w') (hb:Below w w w5):bodyPost prog fn P .ret ⟨tm,[]⟩ w5:=
 bodyPost_ret (cO hf _ _ _ 91 _ _ _ hp hv K5 underlying91 rfl fI) rfl (HP _ _ ⟨rfl,hb⟩)
theorem AO (FA TA VA:Option Addr) (fc tc vc:Nat) (fs:List cL) (tabs:List dZ) (vs:List fF) (hO:vB fs tabs) (hV:vC vs) (z0 z1 z2 z5 z6 z7 z8:Value) (x:cw) (hr:fB x=true) (cs:List Value) (w:World) (Mc:Sq gR w Any FA fs) (hts:Sq mG w Any TA tabs) (hvs:Sq nQ w Any VA vs) (hI:cH w Any cs x):Calls prog 83 #[.agg #[z0,z1,z2,bW TA tabs tc,bW FA fs fc,z5,z6,z7,z8,bW VA vs vc],.agg cs.toArray] w (tA (rW (XE fs) tabs vs x) w):=by
 generalize hP:tA (rW (XE fs) tabs vs x) w=P
 have HP:=aa (show ∀ e w',tA (rW (XE fs) tabs vs x) w e w'→P e w' from fun e w' h=>hP▸h)
 clear hP
 have HR:Hid (rW (XE fs) tabs vs x=(if(XE fs x).1=0 then(if(jf vs tabs (XE fs x).2).1=0∧(jf vs tabs (XE fs x).2).2.truth=true then 13 else(jf vs tabs (XE fs x).2).1,(jf vs tabs (XE fs x).2).2.jP)else((XE fs x).1,eM):Int×List Int)):=aa rfl
 obtain⟨r,hX⟩:=hO.X
 have oq:=aa (fun W (h:Below w w W)=>pO FA fc fs (rU fs) r hX hO.F hO.ck x (pS hr) hr (gN hr).1 W cs (Mc.bZ h) (di.keep hI (cB.cA h)))
 have vK:=aa (fun h0=>FD hO hr h0)
 have XQ:=aa (fun y ds W (h1:cE y≤1000000) (h2:lZ y) (h3:cH W Any ds y) (h:Below w w W)=>inf_Of y ds h1 h2 VA TA vc tc vs tabs W h3 (hvs.bZ h) (hts.bZ h) hV.1 hO.tl hV.2 hO.ts)
 obtain⟨op,n,un,nm,A2,c2,ar,e1,e2,hS⟩:=cH.parts hI
 subst e2
 clear hI hS hX hO hV Mc hts hvs hr
 generalize rW (XE fs) tabs vs x=q at HP HR
 change Hid (∀ W,Below w w W→Calls _ _ _ _ (oM (XE fs x) W))at oq
 generalize XE fs x=ex at HR oq vK
 obtain⟨ee,y⟩:=ex
 dsimp only at HR vK
 generalize ar.length=la at oq ⊢
 generalize fs.length=lf at oq ⊢
 generalize tabs.length=lt at XQ ⊢
 generalize vs.length=lv at XQ ⊢
 go_enter func83,ntmps83
 go_upto_region 1 with fail
 obtain⟨w1,hw1,K0,K1,K2,HB⟩:=nP w [z0,z1,z2,bW TA lt tc,bW FA lf fc,z5,z6,z7,z8,bW VA lv vc] [.int .i64 op,.int .i64 n,bV un,bV nm,bW A2 la c2] [.int .i64 0,.int .i64 0,.int .i64 0,.int .i64 0,.int .i64 0,.int .i64 0] 89 47 91
 rw[hw1]
 clear hw1
 have x0:=K0.o.cell
 have x1:=K1.o.cell
 go_upto_region 2 with(go_at_call 42;refine(oq.o _ HB.o).mono ?_;rintro e w2 ⟨ds,rfl,hds,hb2⟩;obtain⟨eR,yn,eT,eU,A3,c3,yr,e3,rfl,hyS⟩:=cH.parts hds;have HDs:=aa hds;have dG:=aa (HB.o.trans (hb2.mono HB.o.size));have K02:=aa (K0.o.bZ hb2 K0.o.lt);have K22:=aa (K2.o.bZ hb2 K2.o.lt);clear hds hyS hb2 x0 x1)
 have KY:=aa (show cN (w2.alloc (.cells #[bU eR,bU yn,bV eT,bV eU,bW A3 yr c3] 47)) w2 47 [bU eR,bU yn,bV eT,bV eU,bW A3 yr c3]from heap_alloc_new w2 _)
 have hal:Below w2 w2 (w2.alloc (.cells #[bU eR,bU yn,bV eT,bV eU,bW A3 yr c3] 47)):=cS _
 replace HDs:=aa (show cH (w2.alloc (.cells #[bU eR,bU yn,bV eT,bV eU,bW A3 yr c3] 47)) Any [bU eR,bU yn,bV eT,bV eU,bW A3 yr c3] y from(di.keep HDs.o (cB.cA hal)).mono fun _ _ _=>trivial)
 have eF:=aa (dG.o.trans (hal.mono dG.o.size))
 have Qj:=aa (K02.o.bZ hal K02.o.lt)
 have XR:=aa (K22.o.bZ hal K22.o.lt)
 generalize w2.alloc (.cells #[bU eR,bU yn,bV eT,bV eU,bW A3 yr c3] 47)=w3 at KY HDs eF Qj XR ⊢
 clear K02 K22 dG K0 K1 K2 HB e3 hal oq
 by_cases h0:ee=0
 case neg=>
  have HE:=aa (show q=(ee,eM) by rw[HR.o,if_neg h0]);have zr:(ee != 0)=true:=aS;clear h0;go_wp2_with (refine cQ rfl _ _ _ rfl _ _ rfl rfl _ XR.o fI rfl rfl ?_;intro w5 K5 gp);exact rI (q:=q) rfl bQ rfl aV HP.o (cC eF.o gp aac af)
 case pos=>
  replace HR:=aa (show q=(if(jf vs tabs y).1=0∧(jf vs tabs y).2.truth=true then 13 else(jf vs tabs y).1,(jf vs tabs y).2.jP) by rw[HR.o,if_pos h0])
  have hsm:=vK.o h0
  have zH:=aa (XQ.o y _ w3 af hsm.1 HDs.o eF.o)
  clear hsm XQ vK
  subst h0
  obtain⟨it,hit⟩:∃ it,it=(jf vs tabs y).2:=⟨_,rfl⟩
  obtain⟨ie,hie⟩:∃ ie,ie=(jf vs tabs y).1:=⟨_,rfl⟩
  have HC:Hid (Calls prog 135 #[.agg #[bU eR,bU yn,bV eT,bV eU,bW A3 yr c3],bW VA lv vc,bW TA lt tc] w3 fun e w'=>e= .returned (.tuple #[.agg #[.bool it.truth,bU (it.jP.getD 0 0),bU (it.jP.getD 1 0),bU (it.jP.getD 2 0),bU (it.jP.getD 3 0),bU (it.jP.getD 4 0),bU (it.jP.getD 5 0)],bU ie])∧Below w3 w3 w'):=aa (by rw[hit,hie];exact zH.o)
  rw[← hit, ← hie]at HR
  clear hit hie zH
  have HT:Hid (ic it.jP=[bU (it.jP.getD 0 0),bU (it.jP.getD 1 0),bU (it.jP.getD 2 0),bU (it.jP.getD 3 0),bU (it.jP.getD 4 0),bU (it.jP.getD 5 0)]):=aa rfl
  generalize it.truth=bt at HC HR
  generalize it.jP.getD 0 0=t0 at HC HT
  generalize it.jP.getD 1 0=t1 at HC HT
  generalize it.jP.getD 2 0=t2 at HC HT
  generalize it.jP.getD 3 0=t3 at HC HT
  generalize it.jP.getD 4 0=t4 at HC HT
  generalize it.jP.getD 5 0=t5 at HC HT
  have x3:=Qj.o.cell
  have xy:=KY.o.cell
  go_upto_region 5 with(go_at_call 135;refine HC.o.mono ?_;rintro e w6 ⟨rfl,eO⟩;have K6:=aa (XR.o.bZ eO XR.o.lt);have eA:=aa (eF.o.trans (eO.mono eF.o.size));clear eO x3 xy)
  have K7:=aa (K6.o.alloc (.cells #[.bool bt,bU t0,bU t1,bU t2,bU t3,bU t4,bU t5] 137))
  have ko:=aa (eA.o.alloc eA.o.size (.cells #[.bool bt,bU t0,bU t1,bU t2,bU t3,bU t4,bU t5] 137))
  have KT:=aa (show cN (w6.alloc (.cells #[.bool bt,bU t0,bU t1,bU t2,bU t3,bU t4,bU t5] 137)) w6 137 [.bool bt,bU t0,bU t1,bU t2,bU t3,bU t4,bU t5]from heap_alloc_new w6 _)
  generalize w6.alloc (.cells #[.bool bt,bU t0,bU t1,bU t2,bU t3,bU t4,bU t5] 137)=w7 at K7 ko KT ⊢
  have xt:=KT.o.cell
  by_cases hi:ie=0
  case pos=>
   subst hi;cases bt;(case false=>have HE:=aa (show q=(0,it.jP) by rw[HR.o];rfl);go_wp2_with (refine cQ rfl _ _ _ rfl _ _ rfl rfl _ K7.o fI rfl rfl ?_;intro w5 K5 gp);exact rI (q:=q) rfl bC rfl aV HP.o (cC ko.o gp aac af));have HE:=aa (show q=(13,it.jP) by rw[HR.o];rfl);go_wp2_with (refine cQ rfl _ _ _ rfl _ _ rfl rfl _ K7.o fI rfl rfl ?_;intro w5 K5 gp);exact rI (q:=q) rfl bC rfl aV HP.o (cC ko.o gp aac af)
  case neg=>
   have HE:=aa (show q=(ie,it.jP) by rw[HR.o,if_neg (fun h=>hi h.1)]);have zi:(ie==0)=false:=aX;clear hi;go_wp2_with (refine cQ rfl _ _ _ rfl _ _ rfl rfl _ K7.o fI rfl rfl ?_;intro w5 K5 gp);exact rI (q:=q) rfl bC rfl aV HP.o (cC ko.o gp aac af)
theorem Hr:∀ args w,(callFunc 134 args).run prog w= .ok (.enter 134 args) w:=enters_of func134 ah rfl
theorem UX (pp:Nat) (nm:ByteArray) (l:List cL) (w:World) (hc:b_ w pp 3 (bV nm)) (hp:pp<w.heap.size):jT prog 134 #[.pointer (bY pp 0)] gR (Lb nm) l w:=fun W cs x hx ey hb=>by
 obtain⟨A,d,es,e,hsp,hie⟩:=ey;obtain⟨op,n,un,D7,A2,c2,ar,_,hes,_⟩:=hie.parts;subst hes e;have h0:b_ W pp 3 (bV nm):=(hb.cell (p:=bY pp 3) hp).trans hc;have hpW:pp<W.heap.size:=aaD hp hb.size;have HE:=aa (show(x.name.toList==nm.toList)=Lb nm x from Gc _ _);generalize Lb nm x=z at HE;clear hsp hie hx;generalize x.name=xn at HE;generalize x.params.length=xl;show Calls prog 134 #[.agg #[bV xn,bW A xl d,bU op,bU n,bV un,bV D7,bW A2 ar c2],.pointer (bY pp 0)] W _;go_enter func134,ntmps134;go_wp2;go_ret;exact⟨by show Ending.returned (.bool (xn.toList==nm.toList))=_;rw[HE.o],cS _⟩
theorem FE {op n:Int} {u nm:ByteArray} {l:List cw} (h:fB (.mk op n u nm l)=true) {y:cw} (hy:y∈l):fB y=true:=by
 unfold fB at h ⊢;simp only[aag,decide_eq_true_eq]at h ⊢;obtain⟨⟨h1,h2⟩,h3⟩:=h;have hn:cE (.mk op n u nm l)=1+cT l:=aM;have hd:iI (.mk op n u nm l)=1+iq l:=(by unfold iI;rfl);have h4:=dP l y hy;have h5:iI y≤iq l:=by
  obtain⟨k,hk,rfl⟩:=List.getElem_of_mem hy;have:=sH l k l[k] (List.getElem?_eq_getElem hk);have h6:=xY l (k+1);omega
 refine⟨⟨by omega,by omega⟩,?_⟩;have h7:lK l=true:=by
  (have:qi op n u nm l.length=true∧lK l=true:=by simpa [gK]using h3);exact this.2
 exact tC h7 y hy
theorem UY (X:cw→Int×cw) (fs:List cL) (tabs:List dZ) (vs:List fF) (op n:Int) (u nm:ByteArray) (l:List cw):oP X fs tabs vs (.mk op n u nm l)=if op=3∧¬jX X tabs vs ((fs[(findF fs nm).toNat]?).elim [] (·.params)) l=0 then jX X tabs vs ((fs[(findF fs nm).toNat]?).elim [] (·.params)) l else lC X fs tabs vs l:=by
 rw[oP]
theorem DG {X:cw→Int×cw} {fs:List cL} {tabs:List dZ} {vs:List fF} {l:List cw} {k:Nat} (hk:k<l.length):lC X fs tabs vs (l.drop k)=if oP X fs tabs vs l[k]=0 then lC X fs tabs vs (l.drop (k+1))else oP X fs tabs vs l[k]:=by
 rw[aah hk,lC]
theorem Kj {X:cw→Int×cw} {tabs:List dZ} {vs:List fF} {ps:List eX} {l:List cw} {k:Nat} (hk:k<l.length) (hp:k<ps.length):jX X tabs vs (ps.drop k) (l.drop k)=if M0 X tabs vs ps[k].unit l[k]=0 then jX X tabs vs (ps.drop (k+1)) (l.drop (k+1))else M0 X tabs vs ps[k].unit l[k]:=by
 rw[aah hk,aah hp,jX]
theorem Kk {fs:List cL} {tabs:List dZ} {vs:List fF} (hV:vC vs) (y:cw):(rW (XE fs) tabs vs y).2.length=6:=by
 have h6t:OT (jh tabs):=DF fun v hv=>by
  unfold jh at hv;obtain⟨t,_,rfl⟩:=aat.1 hv;exact kj t.unit
 unfold rW;split
 ·show(jf vs tabs _).2.jP.length=6;unfold jf;split
  (·rfl);split
  (·exact OV (DF fun v hv=>(hV.2 v hv).1) h6t _ _ aac);rfl
 rfl
theorem UZ {fs:List cL} (hF:yu fs) {f:cL} (hf:f∈fs) {p0:eX} (hp:p0∈f.params):p0.unit.size≤maxLen:=(((hF.one f hf).1.par p0 hp).sm).2
theorem qO (d0 d1 d2 d3 d4 d5:Int):ic [d0,d1,d2,d3,d4,d5]=[bU d0,bU d1,bU d2,bU d3,bU d4,bU d5]:=rfl
def QF (r:Int) (w:World) (e:Ending) (w':World):Prop:=e= .returned (bU r)∧Below w w w'
theorem QG (FA TA VA:Option Addr) (fc tc vc:Nat) (fs:List cL) (tabs:List dZ) (vs:List fF) (hO:vB fs tabs) (hV:vC vs) (z0 z1 z2 z5 z6 z7 z8:Value) (N:Nat):∀ (x:cw),cE x≤N→fB x=true→dK (j7 fs) x=false→dK (j8 fs) x=false→∀ (cs:List Value) (w:World),Sq gR w Any FA fs→Sq mG w Any TA tabs→Sq nQ w Any VA vs→cH w Any cs x→Calls prog 82 #[.agg #[z0,z1,z2,bW TA tabs tc,bW FA fs fc,z5,z6,z7,z8,bW VA vs vc],.agg cs.toArray] w (QF (oP (XE fs) fs tabs vs x) w):=by
 induction N with
 |zero=>intro x hx;have:=dB x;omega
 |succ N ih=>
  intro x hx hr hun hue cs w Mc hts hvs hI;obtain⟨op,n,un,nm,A2,c2,ar,e1,e2,hS⟩:=cH.parts hI;subst e1 e2;have vE:cE (.mk op n un nm ar)=1+cT ar:=aM;have hnl:=fN ar;have hrn:=pS hr;rw[lQ,Bool.or_eq_false_iff]at hun hue;have Ov:=aa hun;have HUe:=aa hue;have um:=aa (fun y (hy:y∈ar) ds W (h:Below w w W) (hi:cH W Any ds y)=>ih y aZ (FE hr hy) (by have:=hun.2;rw[List.any_eq_false]at this;simpa using this y hy) (by have:=hue.2;rw[List.any_eq_false]at this;simpa using this y hy) ds W (Mc.bZ h) (hts.bZ h) (hvs.bZ h) hi);have XS:=aa (fun y (hy:y∈ar) ds W (h:Below w w W) (hi:cH W Any ds y)=>AO FA TA VA fc tc vc fs tabs vs hO hV z0 z1 z2 z5 z6 z7 z8 y (FE hr hy) ds W (Mc.bZ h) (hts.bZ h) (hvs.bZ h) hi);have HFs:=aa Mc;have HA:=aa hS;have HF:=aa hO.F;obtain⟨r0,hX⟩:=hO.X;have hfl:=hX.len;have har:ar.length≤1000000:=af;have HR:=aa (UY (XE fs) fs tabs vs op n un nm ar);generalize oP (XE fs) fs tabs vs (.mk op n un nm ar)=q at HR ⊢;generalize hP:QF q w=P;have HP:=aa (show ∀ e w',QF q w e w'→P e w' from fun e w' h=>hP▸h);have HLf:=aa (show ∀ y∈ar,(rW (XE fs) tabs vs y).2.length=6 from fun y _=>Kk hV y);clear hP hI hS ih hx hr hun hue hts hvs Mc hX hO vE hnl hrn;obtain⟨la,hla⟩:∃ la,la=ar.length:=⟨_,rfl⟩;have Rg:=aa hla;obtain⟨lf,hlf⟩:∃ lf,lf=fs.length:=⟨_,rfl⟩;have HLF:=aa hlf;rw[← hla]at har ⊢;rw[← hlf]at um XS hfl ⊢;clear hla hlf;generalize tabs.length=lt at um XS ⊢;generalize vs.length=lv at um XS ⊢;go_enter func82,ntmps82;go_upto_region 1 with fail;obtain⟨w1,hw1,K0,K1,HB⟩:=Dr w [z0,z1,z2,bW TA lt tc,bW FA lf fc,z5,z6,z7,z8,bW VA lv vc] [.int .i64 op,.int .i64 n,bV un,bV nm,bW A2 la c2] 89 47;rw[hw1];clear hw1;obtain⟨p,hp⟩:∃ p,p=w.heap.size:=⟨_,rfl⟩;have uu:=aa hp;rw[← hp]at K0 K1 ⊢;clear hp;have fh:=aa (show p+2≤w1.heap.size by have:=K1.o.lt;omega);have iQ:=aa (show ∀ W,Below (p+2) w1 W→Below w w W from fun W h=>HB.o.trans (h.mono aW));have x0:=K0.o.cell;have x1:=K1.o.cell;by_cases ho:op=3;(case neg=>have z3:(op==3)=false:=bE;have HQ:=aa (show q=lC (XE fs) fs tabs vs ar by rw[HR.o,if_neg (fun h=>ho h.1)]);have dH:=aa ((aaf w1 w1).mono fh.o);clear ho;go_wp2_with fail;have Kl:=dH;clear dH;go_loopw [60] (fun v wr=>∃ k:Nat,k≤la∧v= .int .i64 (k:Int)∧Hid (lC (XE fs) fs tabs vs ar=lC (XE fs) fs tabs vs (ar.drop k))∧Hid (Below (p+2) w1 wr)) (fun v _=>la - (intOf v).toNat);(case atStart=>exact⟨0,aaG _,rfl,aa rfl,Kl⟩);clear Kl;obtain⟨k,hk,rfl,Rx,dH⟩:=hrel;have x0:=(K0.o.bZ dH.o af).cell;by_cases hlt:k<la;(case pos=>(have nO:k<ar.length:=by have:=Rg.o;omega);obtain⟨bl,o,cs,hA,yK,hbl,ey,cM⟩:=(HA.o.bZ (iQ.o _ dH.o)).get nO;subst hA;have hmem:=aan nO;obtain⟨eR,yn,eT,eU,A3,c3,yr,oh,hes,_⟩:=cH.parts ey;have AH:=um.o _ hmem;have Nj:=aa (DG (X:=XE fs) (fs:=fs) (tabs:=tabs) (vs:=vs) (l:=ar) (k:=k) nO);generalize ar[k]=y at ey AH oh Nj;generalize oP (XE fs) fs tabs vs y=ay at AH Nj;subst hes;have g0:b_ wr bl (o+k*5) (.int .i64 eR):=cM 0 _ rfl;have g1:b_ wr bl (o+k*5+1) (.int .i64 yn):=cM 1 _ rfl;have g2:b_ wr bl (o+k*5+2) (bV eT):=cM 2 _ rfl;have g3:b_ wr bl (o+k*5+3) (bV eU):=cM 3 _ rfl;have g4:b_ wr bl (o+k*5+4) (bW A3 yr c3):=cM 4 _ rfl;have HY:=aa (show cN (wr.alloc (.cells #[.int .i64 eR,.int .i64 yn,bV eT,bV eU,bW A3 yr c3] 47)) wr 47 [.int .i64 eR,.int .i64 yn,bV eT,bV eU,bW A3 yr c3]from heap_alloc_new wr _);have fO:Below wr wr (wr.alloc (.cells #[.int .i64 eR,.int .i64 yn,bV eT,bV eU,bW A3 yr c3] 47)):=cS _;have Mw:Below (p+2) w1 (wr.alloc (.cells #[.int .i64 eR,.int .i64 yn,bV eT,bV eU,bW A3 yr c3] 47)):=dH.o.trans (fO.mono (aaC fh.o dH.o.size));have ua:=aa (AH _ _ (iQ.o _ Mw) (di.keep ey (cB.cA fO)));have jy:=aa Mw;clear cM ey oh fO AH Mw;go_upto_region 15 with fail;generalize (wr.alloc (.cells #[.int .i64 eR,.int .i64 yn,bV eT,bV eU,bW A3 yr c3] 47))=wd at HY ua jy ⊢;clear g0 g1 g2 g3 g4 x0;have x0:=(K0.o.bZ jy.o af).cell;have z1:=HY.o.cell;go_upto_region 16 with(go_at_call 82;refine ua.o.mono ?_;rintro e w5 ⟨rfl,ew⟩;have dF:=aa (show Below (p+2) w1 w5 from jy.o.trans (ew.mono (aaC fh.o jy.o.size)));clear ew x0 z1);by_cases h0:ay=0;(case pos=>have Mi:=aa (show lC (XE fs) fs tabs vs ar=lC (XE fs) fs tabs vs (ar.drop (k+1)) by rw[Rx.o,Nj.o,if_pos h0]);subst h0;go_wp2;go_roundw;exact⟨k+1,by omega,rfl,Mi,dF⟩;simp[intOf];omega);have HE:=aa (show q=ay by rw[HQ.o,Rx.o,Nj.o,if_neg h0]);have zr:(ay != 0)=true:=aS;clear h0;go_wp2;exact HP.o (.returned (.int .i64 ay)) _ ⟨by rw[HE.o],iQ.o _ dF.o⟩);have HE:=aa (show q=0 by rw[HQ.o,Rx.o,List.drop_eq_nil_of_le (by have:=Rg.o;omega:ar.length≤k),lC]);(obtain rfl:la=k:=by omega);clear hk;go_wp2;exact HP.o (.returned (.int .i64 0)) _ ⟨by rw[HE.o],iQ.o _ dH.o⟩);case pos=>
   have dH:=aa ((aaf w1 w1).mono fh.o)
   have hF0:0≤findF fs nm:=by
    have:(op==3&&decide (findF fs nm<0))=false:=Ov.o.1;rw[ho]at this;simp at this;omega
   obtain⟨i,hi⟩:∃ i:Nat,findF fs nm=(i:Int):=⟨(findF fs nm).toNat,by omega⟩
   have hil:i<fs.length:=by
    have h:=hi;unfold findF AX at h;cases hx:fs.findIdx? (Lb nm)with
    |none=>rw[hx]at h;simp at h
    |some j=>
     rw[hx]at h;have:=(List.findIdx?_eq_some_iff_getElem.1 hx).1;simp at h;omega
   have Tu:fs[i]? =some fs[i]:=List.getElem?_eq_getElem hil
   have hpl:ar.length=fs[i].params.length:=by
    have:=HUe.o.1;unfold j8 at this;rw[show(cw.mk op n un nm ar).op=op from rfl,show(cw.mk op n un nm ar).name=nm from rfl,show(cw.mk op n un nm ar).args=ar from rfl,ho,hi,Int.toNat_natCast,Tu]at this;simpa using this
   have hpok:=fun p0 (hp:p0∈fs[i].params)=>UZ HF.o (aan hil) hp
   replace HR:=aa (show q=if jX (XE fs) tabs vs fs[i].params ar=0 then lC (XE fs) fs tabs vs ar else jX (XE fs) tabs vs fs[i].params ar by
    rw[HR.o,hi,Int.toNat_natCast,Tu];show(if op=3∧¬jX (XE fs) tabs vs fs[i].params ar=0 then jX (XE fs) tabs vs fs[i].params ar else lC (XE fs) fs tabs vs ar)=_;by_cases h:jX (XE fs) tabs vs fs[i].params ar=0
    (·rw[if_neg (fun k=>k.2 h),if_pos h]);rw[if_pos ⟨ho,h⟩,if_neg h])
   obtain⟨bf,of_,csf,hA,_,hbf,hisf,hclf⟩:=HFs.o.get hil
   have HIx:=aa (fun W (h:Below w w W) pp hc hp=>Cl (Lb nm) 134 #[.pointer (bY pp 0)] Hr FA fc fs W (UX pp nm fs W hc hp) (by unfold maxLen;have:=HLF.o;omega) (HFs.o.bZ h))
   rw[show AX (Lb nm) fs=(i:Int)from hi, ← HLF.o]at HIx
   subst hA
   obtain⟨PA,pd,es,G5,hsp,hie⟩:=hisf
   subst G5
   have NJ:=aa hsp
   have f1:b_ w bf (of_+i*7+1) (bW PA fs[i].params.length pd):=hclf 1 _ rfl
   rw[← hpl, ← Rg.o]at f1
   have HPl:=aa hpl
   generalize fs[i].params=ps at HR NJ hpok HPl
   have HPok:=aa hpok
   have hif:i<lf:=by have:=HLF.o;omega
   clear hF0 hi hil Tu hpl hpok hsp hie hclf Ov HUe
   subst ho
   go_upto_region 3 with(go_at_call 133;refine(HIx.o _ HB.o (p+1) (by rw[x1];rfl) K1.o.lt).mono ?_;rintro e w2 ⟨rfl,hb2⟩;have dG:=aa (show Below (p+2) w1 w2 from dH.o.trans (hb2.mono fh.o));clear hb2)
   have x1:=(K1.o.bZ dG.o af).cell
   clear dH HIx x0
   go_wp2_with fail
   go_loopw [24] (fun v wr=>∃ k:Nat,k≤la∧v=bU (k:Int)∧Hid (jX (XE fs) tabs vs ps ar=jX (XE fs) tabs vs (ps.drop k) (ar.drop k))∧Hid (Below (p+2) w1 wr)) (fun v _=>la - (intOf v).toNat)
   case atStart=>exact⟨0,aaG _,rfl,aa rfl,dG⟩
   case round=>
    clear x1 dG;obtain⟨k,hk,rfl,Rx,dH⟩:=hrel;have x0:=(K0.o.bZ dH.o af).cell;have x1:=(K1.o.bZ dH.o af).cell;by_cases hlt:k<la;case pos=>
     (have nO:k<ar.length:=by have:=Rg.o;omega);obtain⟨bl,o,cs,hA,yK,hbl,ey,cM⟩:=(HA.o.bZ (iQ.o _ dH.o)).get nO;subst hA;have hmem:=aan nO;obtain⟨eR,yn,eT,eU,A3,c3,yr,oh,hes,_⟩:=cH.parts ey;(have hkp:k<ps.length:=by have:=HPl.o;omega);obtain⟨bp,XT,csp,hAp,_,D_,hcsp,Km⟩:=NJ.o.get hkp;subst hAp;have hcsp:csp=[bV ps[k].name,bV ps[k].unit]:=hcsp;subst hcsp;have f2:b_ w bp (XT+k*2+1) (bV ps[k].unit):=Km 1 _ rfl;have hpu:=HPok.o _ (aan hkp);have uo:=aa (Kj (X:=XE fs) (tabs:=tabs) (vs:=vs) (ps:=ps) (l:=ar) (k:=k) nO hkp);have hnc:=XS.o _ hmem;have YR:=HLf.o _ hmem;have QH:=aa (show M0 (XE fs) tabs vs ps[k].unit ar[k]=if(rW (XE fs) tabs vs ar[k]).1=0∧¬(rW (XE fs) tabs vs ar[k]).2=iu ps[k].unit then 14 else(rW (XE fs) tabs vs ar[k]).1 by unfold M0;rfl);generalize M0 (XE fs) tabs vs ps[k].unit ar[k]=ac at uo QH;generalize ar[k]=y at ey hnc oh QH YR;generalize ps[k].unit=pu at f2 hpu QH;generalize rW (XE fs) tabs vs y=nc at hnc QH YR;obtain⟨ne,nd⟩:=nc;obtain⟨d0,d1,d2,d3,d4,d5,rfl⟩:=six YR;subst hes;clear Km YR;have g0:b_ wr bl (o+k*5) (bU eR):=cM 0 _ rfl;have g1:b_ wr bl (o+k*5+1) (bU yn):=cM 1 _ rfl;have g2:b_ wr bl (o+k*5+2) (bV eT):=cM 2 _ rfl;have g3:b_ wr bl (o+k*5+3) (bV eU):=cM 3 _ rfl;have g4:b_ wr bl (o+k*5+4) (bW A3 yr c3):=cM 4 _ rfl;have HY:=aa (show cN (wr.alloc (.cells #[bU eR,bU yn,bV eT,bV eU,bW A3 yr c3] 47)) wr 47 [bU eR,bU yn,bV eT,bV eU,bW A3 yr c3]from heap_alloc_new wr _);have fO:Below wr wr (wr.alloc (.cells #[bU eR,bU yn,bV eT,bV eU,bW A3 yr c3] 47)):=cS _;have Mw:Below (p+2) w1 (wr.alloc (.cells #[bU eR,bU yn,bV eT,bV eU,bW A3 yr c3] 47)):=dH.o.trans (fO.mono (aaC fh.o dH.o.size));have ua:Hid (Calls prog 83 #[.agg #[z0,z1,z2,bW TA lt tc,bW (bY bf of_) lf fc,z5,z6,z7,z8,bW VA lv vc],.agg #[bU eR,bU yn,bV eT,bV eU,bW A3 yr c3]] (wr.alloc (.cells #[bU eR,bU yn,bV eT,bV eU,bW A3 yr c3] 47)) fun e w'=>e= .returned (.tuple #[.agg #[bU d0,bU d1,bU d2,bU d3,bU d4,bU d5],bU ne])∧Below (wr.alloc (.cells #[bU eR,bU yn,bV eT,bV eU,bW A3 yr c3] 47)).heap.size (wr.alloc (.cells #[bU eR,bU yn,bV eT,bV eU,bW A3 yr c3] 47)) w'):=by
      have h1:=hnc _ _ (iQ.o _ Mw) (di.keep ey (cB.cA fO));refine aa (h1.mono ?_);rintro e w' ⟨h2,h3⟩;refine⟨h2.trans ?_,h3⟩;show Ending.returned (.tuple #[.agg (ic [d0,d1,d2,d3,d4,d5]).toArray,bU ne])=_;rw[qO]
     have jy:=aa Mw;have Yx:=aa f1;have Mi:=aa f2;clear cM ey oh fO hnc Mw f1 f2;go_upto_region 6 with fail;generalize (wr.alloc (.cells #[bU eR,bU yn,bV eT,bV eU,bW A3 yr c3] 47))=wd at HY ua jy ⊢;clear g0 g1 g2 g3 g4 x0 x1;have x0:=(K0.o.bZ jy.o af).cell;have z1:=HY.o.cell;go_upto_region 7 with(go_at_call 83;refine ua.o.mono ?_;rintro e w5 ⟨rfl,ew⟩;have dF:=aa (show Below (p+2) w1 w5 from jy.o.trans (ew.mono (aaC fh.o jy.o.size)));clear ew x0 z1);have XU:=aa (show cN (w5.alloc (.cells #[bU d0,bU d1,bU d2,bU d3,bU d4,bU d5] 91)) w5 91 [bU d0,bU d1,bU d2,bU d3,bU d4,bU d5]from heap_alloc_new w5 _);have eA:=aa (dF.o.alloc (aaC fh.o dF.o.size) (.cells #[bU d0,bU d1,bU d2,bU d3,bU d4,bU d5] 91));generalize w5.alloc (.cells #[bU d0,bU d1,bU d2,bU d3,bU d4,bU d5] 91)=w6 at XU eA ⊢;generalize w5.heap.size=pd5 at XU ⊢;have Lf:=aa (iQ.o _ eA.o);have x0:=(K0.o.bZ eA.o af).cell;have xk:=XU.o.cell;by_cases hne:ne=0;case neg=>
      have HE:=aa (show q=ne by
       have h1:ac=ne:=(by rw[QH.o,if_neg (fun h=>hne h.1)]);rw[HR.o,Rx.o,uo.o,h1,if_neg hne,if_neg hne])
      have zn:(ne==0)=false:=(by simpa using hne);have zm:(ne != 0)=true:=(by simpa using hne);clear hne;go_wp2_with fail;go_quiet (fail);have ko:=aa (below_drewN Lf.o nq);generalize w6.drewN nq=w7 at ko ⊢;go_wp2;exact HP.o (.returned (bU ne)) _ ⟨by rw[HE.o],ko.o⟩
     subst hne;have BG:=aa (fun W=>tF pu hpu W);have y1:=Lf.o.cell (p:=bY bf (of_+i*7+1)) hbf;have y2:=Lf.o.cell (p:=bY bp (XT+k*2+1)) D_;rw[Yx.o]at y1;rw[Mi.o]at y2;obtain⟨u0,u1,u2,u3,u4,u5,hu⟩:=six (kj pu);rw[hu]at BG QH;simp only[ic,aal,aak]at BG;have rX:=BD d0 d1 d2 d3 d4 d5 u0 u1 u2 u3 u4 u5;(try dsimp only at QH);have hS6:w6.heap.size≤w6:=aaB _;have xM:=aa (show ∀ W,Below w6 w6 W→∀ b' o',b'<w6.heap.size→W.cell? (bY b' o')=w6.cell? (bY b' o')from fun W h b' o' hb=>h.cell (p:=bY b' o') hb);have q0:p<w6.heap.size:=aaD K0.o.lt eA.o.size;have q1:pd5<w6.heap.size:=XU.o.lt;have q2:bf<w6.heap.size:=aaD hbf Lf.o.size;have q3:bp<w6.heap.size:=aaD D_ Lf.o.size;have XV:=aa (show Below w6 w6 w6.drew from⟨rfl,rfl,rfl,aaB _,fun _ _=>rfl⟩);by_cases hd:[d0,d1,d2,d3,d4,d5]=[u0,u1,u2,u3,u4,u5];case neg=>
      have HE:=aa (show q=14 by
       have h1:ac=14:=(by rw[QH.o,if_pos ⟨rfl,hd⟩]);rw[HR.o,Rx.o,uo.o,h1];rfl)
      (have hq:∀ W,(binOp .neq 91 (.agg #[bU d0,bU d1,bU d2,bU d3,bU d4,bU d5]) (.agg #[bU u0,bU u1,bU u2,bU u3,bU u4,bU u5])).run prog W= .ok (.bool true) W:=fun W=>by rw[rX,decide_eq_false hd];rfl);clear rX hd;go_wp2_with fail;refine cV (S:=fun w'=>∀ b' o',b'<w6.heap.size→w'.cell? (bY b' o')=w6.cell? (bY b' o')) [0,1,2,3,4,7,11,5,6,8,9,10,12,13,14,16,17] [(0,false),(1,false),(2,false),(3,false),(4,false),(7,false),(11,false),(5,false),(6,false),(8,false),(9,false),(10,false),(12,false),(13,false),(14,false),(15,true),(16,false),(17,false)] ah ah aq rfl ah (fun _ _ _=>rfl) ?_;(iterate 15 refine hwr ?_);refine hwt fun K hK=>?_;go_simp;refine(BG.o _).mono ?_;rintro e w8 ⟨rfl,o_⟩;have lD:=aa (XV.o.trans (o_.mono XV.o.size));refine hK.o _ _ (xM.o _ lD.o) ?_;clear hK K;refine hwr ?_;refine hwr ?_;refine eD ?_;(try go_frame);go_wp2;exact HP.o (.returned (bU 14)) _ ⟨by rw[HE.o],Lf.o.trans (lD.o.mono Lf.o.size)⟩
     have HFz:=aa (show jX (XE fs) tabs vs ps ar=jX (XE fs) tabs vs (ps.drop (k+1)) (ar.drop (k+1)) by
      have h1:ac=0:=(by rw[QH.o,if_neg (fun h=>h.2 hd)]);rw[Rx.o,uo.o,h1];rfl)
     (have hq:∀ W,(binOp .neq 91 (.agg #[bU d0,bU d1,bU d2,bU d3,bU d4,bU d5]) (.agg #[bU u0,bU u1,bU u2,bU u3,bU u4,bU u5])).run prog W= .ok (.bool false) W:=fun W=>by rw[rX,decide_eq_true hd];rfl);clear rX hd;go_wp2_with fail;refine cV (S:=fun w'=>∀ b' o',b'<w6.heap.size→w'.cell? (bY b' o')=w6.cell? (bY b' o')) [0,1,2,3,4,7,11,5,6,8,9,10,12,13,14,16,17] [(0,false),(1,false),(2,false),(3,false),(4,false),(7,false),(11,false),(5,false),(6,false),(8,false),(9,false),(10,false),(12,false),(13,false),(14,false),(15,true),(16,false),(17,false)] ah ah aq rfl ah (fun _ _ _=>rfl) ?_;(iterate 15 refine hwr ?_);refine hwt fun K hK=>?_;go_simp;refine(BG.o _).mono ?_;rintro e w8 ⟨rfl,o_⟩;have lD:=aa (XV.o.trans (o_.mono XV.o.size));refine hK.o _ _ (xM.o _ lD.o) ?_;clear hK K;refine hwr ?_;refine hwr ?_;refine eD ?_;(try go_frame);have je:=aa (show Below (p+2) w1 w8 from eA.o.trans (lD.o.mono (aaC fh.o eA.o.size)));clear x0 xk y1 y2 hq;go_wp2;go_roundw;exact⟨k+1,by omega,rfl,HFz,je⟩;simp[intOf];omega
    (have hge:ar.length≤k:=by have:=Rg.o;omega);(obtain rfl:la=k:=by omega);have HQ:=aa (show q=lC (XE fs) fs tabs vs ar by
     rw[HR.o,Rx.o,List.drop_eq_nil_of_le hge];(have:jX (XE fs) tabs vs (ps.drop la) []=0:=by cases ps.drop la<;>rfl);rw[this];rfl)
    clear hlt hk x0 hge;go_wp2_with fail;have Kl:=dH;clear dH;go_loopw [60] (fun v wr=>∃ k:Nat,k≤la∧v=bU (k:Int)∧Hid (lC (XE fs) fs tabs vs ar=lC (XE fs) fs tabs vs (ar.drop k))∧Hid (Below (p+2) w1 wr)) (fun v _=>la - (intOf v).toNat);(case atStart=>exact⟨0,aaG _,rfl,aa rfl,Kl⟩);clear Kl;obtain⟨k,hk,rfl,Rx,dH⟩:=hrel;have x0:=(K0.o.bZ dH.o af).cell;by_cases hlt:k<la;(case pos=>(have nO:k<ar.length:=by have:=Rg.o;omega);obtain⟨bl,o,cs,hA,yK,hbl,ey,cM⟩:=(HA.o.bZ (iQ.o _ dH.o)).get nO;subst hA;have hmem:=aan nO;obtain⟨eR,yn,eT,eU,A3,c3,yr,oh,hes,_⟩:=cH.parts ey;have AH:=um.o _ hmem;have Nj:=aa (DG (X:=XE fs) (fs:=fs) (tabs:=tabs) (vs:=vs) (l:=ar) (k:=k) nO);generalize ar[k]=y at ey AH oh Nj;generalize oP (XE fs) fs tabs vs y=ay at AH Nj;subst hes;have g0:b_ wr bl (o+k*5) (bU eR):=cM 0 _ rfl;have g1:b_ wr bl (o+k*5+1) (bU yn):=cM 1 _ rfl;have g2:b_ wr bl (o+k*5+2) (bV eT):=cM 2 _ rfl;have g3:b_ wr bl (o+k*5+3) (bV eU):=cM 3 _ rfl;have g4:b_ wr bl (o+k*5+4) (bW A3 yr c3):=cM 4 _ rfl;have HY:=aa (show cN (wr.alloc (.cells #[bU eR,bU yn,bV eT,bV eU,bW A3 yr c3] 47)) wr 47 [bU eR,bU yn,bV eT,bV eU,bW A3 yr c3]from heap_alloc_new wr _);have fO:Below wr wr (wr.alloc (.cells #[bU eR,bU yn,bV eT,bV eU,bW A3 yr c3] 47)):=cS _;have Mw:Below (p+2) w1 (wr.alloc (.cells #[bU eR,bU yn,bV eT,bV eU,bW A3 yr c3] 47)):=dH.o.trans (fO.mono (aaC fh.o dH.o.size));have ua:=aa (AH _ _ (iQ.o _ Mw) (di.keep ey (cB.cA fO)));have jy:=aa Mw;clear cM ey oh fO AH Mw;go_upto_region 15 with fail;generalize (wr.alloc (.cells #[bU eR,bU yn,bV eT,bV eU,bW A3 yr c3] 47))=wd at HY ua jy ⊢;clear g0 g1 g2 g3 g4 x0;have x0:=(K0.o.bZ jy.o af).cell;have z1:=HY.o.cell;go_upto_region 16 with(go_at_call 82;refine ua.o.mono ?_;rintro e w5 ⟨rfl,ew⟩;have dF:=aa (show Below (p+2) w1 w5 from jy.o.trans (ew.mono (aaC fh.o jy.o.size)));clear ew x0 z1);by_cases h0:ay=0;(case pos=>have Mi:=aa (show lC (XE fs) fs tabs vs ar=lC (XE fs) fs tabs vs (ar.drop (k+1)) by rw[Rx.o,Nj.o,if_pos h0]);subst h0;go_wp2;go_roundw;exact⟨k+1,by omega,rfl,Mi,dF⟩;simp[intOf];omega);have HE:=aa (show q=ay by rw[HQ.o,Rx.o,Nj.o,if_neg h0]);have zr:(ay != 0)=true:=aS;clear h0;go_wp2;exact HP.o (.returned (bU ay)) _ ⟨by rw[HE.o],iQ.o _ dF.o⟩);have HE:=aa (show q=0 by rw[HQ.o,Rx.o,List.drop_eq_nil_of_le (by have:=Rg.o;omega:ar.length≤k),lC]);(obtain rfl:la=k:=by omega);clear hk;go_wp2;exact HP.o (.returned (bU 0)) _ ⟨by rw[HE.o],iQ.o _ dH.o⟩
theorem FH {fs:List cL} {x:cw} (h0:(XE fs x).1=0):dK (j7 fs) x=false∧dK (j8 fs) x=false:=by
 unfold XE gy at h0;cases hu:dK (j7 fs) x with
 |true=>rw[hu]at h0;simp at h0
 |false=>
  rw[hu]at h0;cases hv:dK (j8 fs) x with
  |true=>rw[hv]at h0;simp at h0
  |false=>exact⟨rfl,rfl⟩
theorem DI (FA TA VA:Option Addr) (fc tc vc:Nat) (fs:List cL) (tabs:List dZ) (vs:List fF) (hO:vB fs tabs) (hV:vC vs) (z0 z1 z2 z5 z6 z7 z8:Value) (x:cw) (hr:fB x=true) (cs:List Value) (w:World) (Mc:Sq gR w Any FA fs) (hts:Sq mG w Any TA tabs) (hvs:Sq nQ w Any VA vs) (hI:cH w Any cs x):Calls prog 39 #[.agg #[z0,z1,z2,bW TA tabs tc,bW FA fs fc,z5,z6,z7,z8,bW VA vs vc],.agg cs.toArray] w (tA (jg (XE fs) fs tabs vs x) w):=by
 generalize hP:tA (jg (XE fs) fs tabs vs x) w=P;have HP:=aa (show ∀ e w',tA (jg (XE fs) fs tabs vs x) w e w'→P e w' from fun e w' h=>hP▸h);clear hP;have HR:Hid (jg (XE fs) fs tabs vs x=(if ¬(XE fs x).1=0 then((XE fs x).1,eM)else if ¬oP (XE fs) fs tabs vs x=0 then(oP (XE fs) fs tabs vs x,eM)else rW (XE fs) tabs vs x:Int×List Int)):=aa (by unfold jg;rfl);obtain⟨r,hX⟩:=hO.X;have oq:=aa (fun W (h:Below w w W)=>pO FA fc fs (rU fs) r hX hO.F hO.ck x (pS hr) hr (gN hr).1 W cs (Mc.bZ h) (di.keep hI (cB.cA h)));have YS:=aa (fun(h0:(XE fs x).1=0) W (h:Below w w W)=>QG FA TA VA fc tc vc fs tabs vs hO hV z0 z1 z2 z5 z6 z7 z8 (cE x) x aac hr (FH h0).1 (FH h0).2 cs W (Mc.bZ h) (hts.bZ h) (hvs.bZ h) (di.keep hI (cB.cA h)));have HNu:=aa (fun W (h:Below w w W)=>AO FA TA VA fc tc vc fs tabs vs hO hV z0 z1 z2 z5 z6 z7 z8 x hr cs W (Mc.bZ h) (hts.bZ h) (hvs.bZ h) (di.keep hI (cB.cA h)));obtain⟨op,n,un,nm,A2,c2,ar,e1,e2,hS⟩:=cH.parts hI;subst e2;clear hI hS hX hO hV Mc hts hvs hr;generalize jg (XE fs) fs tabs vs x=q at HP HR;generalize oP (XE fs) fs tabs vs x=ae at HR YS;generalize rW (XE fs) tabs vs x=nc at HR HNu;change Hid (∀ W,Below w w W→Calls _ _ _ _ (oM (XE fs x) W))at oq;generalize XE fs x=ex at HR oq YS;obtain⟨ee,y⟩:=ex;dsimp only at HR YS;generalize ar.length=la at oq YS HNu ⊢;generalize fs.length=lf at oq YS HNu ⊢;generalize tabs.length=lt at YS HNu ⊢;generalize vs.length=lv at YS HNu ⊢;go_enter func39,ntmps39;go_upto_region 1 with fail;obtain⟨w1,hw1,K0,K1,K2,HB⟩:=nP w [z0,z1,z2,bW TA lt tc,bW FA lf fc,z5,z6,z7,z8,bW VA lv vc] [.int .i64 op,.int .i64 n,bV un,bV nm,bW A2 la c2] [.int .i64 0,.int .i64 0,.int .i64 0,.int .i64 0,.int .i64 0,.int .i64 0] 89 47 91;rw[hw1];clear hw1;have x0:=K0.o.cell;have x1:=K1.o.cell;go_upto_region 2 with(go_at_call 42;refine(oq.o _ HB.o).mono ?_;rintro e w2 ⟨ds,rfl,hds,hb2⟩;obtain⟨eR,yn,eT,eU,A3,c3,yr,e3,rfl,hyS⟩:=cH.parts hds;have dG:=aa (HB.o.trans (hb2.mono HB.o.size));have K02:=aa (K0.o.bZ hb2 K0.o.lt);have K12:=aa (K1.o.bZ hb2 K1.o.lt);have K22:=aa (K2.o.bZ hb2 K2.o.lt);clear hds hyS e3 hb2 x0 x1);have eF:=aa (dG.o.alloc dG.o.size (.cells #[.int .i64 eR,.int .i64 yn,bV eT,bV eU,bW A3 yr c3] 47));have Qj:=aa (K02.o.alloc (.cells #[.int .i64 eR,.int .i64 yn,bV eT,bV eU,bW A3 yr c3] 47));have M5:=aa (K12.o.alloc (.cells #[.int .i64 eR,.int .i64 yn,bV eT,bV eU,bW A3 yr c3] 47));have XR:=aa (K22.o.alloc (.cells #[.int .i64 eR,.int .i64 yn,bV eT,bV eU,bW A3 yr c3] 47));generalize w2.alloc (.cells #[.int .i64 eR,.int .i64 yn,bV eT,bV eU,bW A3 yr c3] 47)=w3 at eF Qj M5 XR ⊢;clear K02 K12 K22 dG K0 K1 K2 HB oq;by_cases h0:ee=0;(case neg=>have HE:=aa (show q=(ee,eM) by rw[HR.o,if_pos h0]);have zr:(ee != 0)=true:=aS;clear h0;go_wp2_with (refine cQ rfl _ _ _ rfl _ _ rfl rfl _ XR.o fI rfl rfl ?_;intro w5 K5 gp);exact rI (q:=q) rfl bQ rfl aV HP.o (cC eF.o gp aac af));case pos=>
  replace HR:=aa (show q=(if ¬ae=0 then(ae,eM)else nc:Int×List Int) by rw[HR.o,if_neg (fun h=>h h0)])
  have HAr2:=aa (YS.o h0 w3 eF.o)
  subst h0
  have x0:=Qj.o.cell
  have x1:=M5.o.cell
  go_upto_region 5 with(go_at_call 82;refine HAr2.o.mono ?_;rintro e w4 ⟨rfl,hb4⟩;have gC:=aa (eF.o.trans (hb4.mono eF.o.size));have K04:=aa (Qj.o.bZ hb4 Qj.o.lt);have K14:=aa (M5.o.bZ hb4 M5.o.lt);have K24:=aa (XR.o.bZ hb4 XR.o.lt);clear hb4 x0 x1)
  by_cases ha:ae=0
  case neg=>
   have HE:=aa (show q=(ae,eM) by rw[HR.o,if_pos ha]);have zr:(ae != 0)=true:=(by simpa using ha);clear ha;go_wp2_with (refine cQ rfl _ _ _ rfl _ _ rfl rfl _ K24.o fI rfl rfl ?_;intro w5 K5 gp);exact rI (q:=q) rfl bQ rfl aV HP.o (cC gC.o gp aac af)
  case pos=>
   have HE:=aa (show q=nc by rw[HR.o,if_neg (fun h=>h ha)]);subst ha;have HNu2:=aa (HNu.o w4 gC.o);rw[← HE.o]at HNu2;have x0:=K04.o.cell;have x1:=K14.o.cell;go_wp2_with (first|(go_at_call 83;refine HNu2.o.mono ?_;rintro e w6 ⟨rfl,eO⟩;have K6:=aa (K24.o.bZ eO K24.o.lt);have eA:=aa (gC.o.trans (eO.mono gC.o.size));clear eO x0 x1)|(refine cQ rfl _ _ _ rfl _ _ rfl rfl _ K6.o fI rfl rfl ?_;intro w5 K5 gp));exact rI rfl K5.o rfl rfl HP.o (cC eA.o gp aac af)
end Go.Proofs.YtfppbjfnllhgcaaGreat
