/- Parts of the proof, packed (Inf5 to CalcC); each theorem bears its own conditions. -/
import Derived.Test.YtfppbjfnllhgcaaGreatPn10
set_option linter.unusedVariables false
set_option linter.unusedSimpArgs false
set_option maxRecDepth 100000
set_option maxHeartbeats 8000000
open Go.Proofs.Tryz
open Go.Lib renaming hid → aa
open Nat renaming le_refl→aaB,lt_of_lt_of_le→aaD,le_trans→aaC,zero_le→aaG
open Go.World renaming size_alloc→aaI
open List renaming getElem_mem→aan,length_append→aao,getD_eq_getElem?_getD→aam,take_of_length_le→aax,mem_cons→aas,getD_cons_zero→aal,getD_cons_succ→aak,take_succ_eq_append_getElem→aaz,mem_map→aat,drop_eq_getElem_cons→aah,length_take→aaq
open Go.RowKit.Below renaming refl→aaf
open Bool renaming and_eq_true→aag
open Option renaming map_eq_some_iff→aaH
theorem aV {p:Prop} (h:p:=by rw[HE.o];rfl):p:=h
theorem bP {p:Prop} (h:p:=by rw[HE.o];exact K5.o):p:=h
theorem bB {p:Prop} (h:p:=by rw[HE.o];show cN _ _ _ (ig it.jQ);rw[HT.o];exact K5.o):p:=h
namespace Go.Proofs.YtfppbjfnllhgcaaGreat
section
open Go Go.RowKit Bg Go.Proofs Sh Kb Ck
theorem lT {P:Program} {ops:Array Oper} {o:Oper} {a:Act} {w:World} {K:Act→World→Prop} {Q:Exit→Act→World→Prop} {E:Prop} (hgd:o.guard=none) (ty:TypeId) (x y:Operand) (ho:o.op= .store ty x y) (g:Nat) (cells:List Value) (hx:a.eval x= .pointer (bY g 0)) (hy:a.eval y= .agg cells.toArray) (t:TypeId) {old:List Value} (hg:cN w g t old) (hi:(P.info? ty).map (·.size)=some cells.length) (hold:old.length=cells.length) (h1:cells.all (·.oneCell')=true) (h:∀ w',Hid (cN w' g t cells)→w.grownBy w' (some g)→K (a.put o.dst undef) w'):if Region.wanted o (yielded ops a.tmps)=true then Oper.wp P o a w K Q else E:=by
 have hw:Region.wanted o (yielded ops a.tmps)=true:=(by simp[Region.wanted,hgd]);rw[if_pos hw];exact wp_store_row ty x y ho g cells.toArray hx hy t old.toArray hg aW (by simpa using hold) aF (h _ (aa (cN.row_ hg cells)) (xq _ _ _))
def qF:Rel nN:=lX 7 pX (fun _=>rfl) (fun x v hv=>by simp[pX,ig]at hv;rcases hv with rfl|rfl|rfl|rfl|rfl|rfl|rfl<;>rfl)
theorem uH {w:World} {S:Nat→Prop} {b o:Nat} {args:List nN} (h:Sq qF w S (bY b o) args) {j:Nat} {x:nN} (hj:args[j]? =some x):∀ i,i<7→w.cell? (bY b (o+j*7+i))=(pX x)[i]? :=fun i hi=>by
 obtain⟨hjl,e⟩:=List.getElem?_eq_some_iff.1 hj;obtain⟨b',o',cs,hA,_,_,hcs,cT⟩:=h.get hjl;injection hA with hA;injection hA with e1 e2;subst e1 e2;have hcs:cs=pX args[j]:=hcs;rw[e]at hcs;subst hcs;have hl:i<(pX x).length:=hi;rw[List.getElem?_eq_getElem hl];exact cT i _ (List.getElem?_eq_getElem hl)
theorem Dp (A:Option Addr) (c:Nat) (fv:Value) (w:World):Calls prog 317 #[bW A 0 c,fv] w fun e w'=>e= .returned (bU (-1))∧w=w':=by
 go_enter func317,ntmps317;go_wp2_with fail;refine wp_loop_rounds 1 ?_;rw[rounds_succ];go_wp2;go_ret;exact⟨rfl,rfl⟩
theorem xD (A:Option Addr) (c:Nat) (fv:Value) (w:World):Calls prog 304 #[bW A 0 c,fv] w fun e w'=>e= .returned (.bool false)∧w=w':=by
 go_enter func304,ntmps304;go_wp2_with (go_at_call 317;refine(Dp _ _ _ _).mono ?_;rintro e w' ⟨rfl,rfl⟩);go_ret;exact⟨rfl,rfl⟩
theorem Ed (p:_→Bool) (g:Nat) (lb:Array Value) (eg:∀ args w,(callFunc g args).run prog w= .ok (.enter g args) w) (A:Option Addr) (c:Nat) (xs:List nN) (w:World) (hp:jT prog g lb qF p xs w) (hbig:xs.length≤maxLen) (hs:Sq qF w Any A xs):Calls prog 304 #[bW A xs c,.func (.func g) #[] lb] w fun e w'=>e= .returned (.bool (xs.any p))∧Below w w w':=by
 cases xs with
 |nil=>exact(xD A c _ w).mono fun e w' ⟨he,hw⟩=>⟨he,hw▸aaf _ _⟩
 |cons a l=>exact o8 (R:=qF) GU Tryz.isAgg137 Tryz.sizeOf137 p g lb eg A c (a :: l) w hp aR hs ai
theorem Ee:∀ args w,(callFunc 305 args).run prog w= .ok (.enter 305 args) w:=enters_of func305 ah rfl
theorem Qe (l:List nN) (w:World):jT prog 305 #[] qF (fun t=> !t.truth) l w:=fun W cs x hx ey hb=>by
 have ey:cs=pX x:=ey;subst ey;obtain⟨tx,dx⟩:=x;show Calls prog 305 #[.agg #[.bool tx,bU (dx.getD 0 0),bU (dx.getD 1 0),bU (dx.getD 2 0),bU (dx.getD 3 0),bU (dx.getD 4 0),bU (dx.getD 5 0)]] W _;clear hx;go_enter func305,ntmps305;go_wp2;go_ret;exact⟨rfl,cS _⟩
theorem Qf (A:Option Addr) (c:Nat) (args:List nN) (w:World) (hs:Sq qF w Any A args) (hl:args.length≤1000000):Calls prog 280 #[bW A args c] w (Am (rz args) w):=by
 generalize hP:Am (rz args) w=P;have HP:=aa (show ∀ e w',Am (rz args) w e w'→P e w' from fun e w' h=>hP▸h);have HR:Hid (rz args=(if args.any (fun t=> !t.truth)then(13,zT)else(0,MC):Int×nN)):=aa rfl;generalize rz args=q at HP HR;clear hP;have HC:=aa (fun W (h:Below w w W)=>Ed (fun t=> !t.truth) 305 #[] Ee A c args W (Qe args W) aH (hs.bZ h));generalize args.any (fun t=> !t.truth)=r at HC HR;generalize args.length=n at HC ⊢;clear hs hl;have HT:=aa (fun W=>Dm W);go_enter func280,ntmps280;go_upto_region 1 with fail;have K2:=aa (show cN (w.alloc (.cells #[.bool false,bU 0,bU 0,bU 0,bU 0,bU 0,bU 0] 137)) w 137 [.bool false,bU 0,bU 0,bU 0,bU 0,bU 0,bU 0]from heap_alloc_new w _);have HB:=aa ((aaf w w).alloc aac (.cells #[.bool false,bU 0,bU 0,bU 0,bU 0,bU 0,bU 0] 137));generalize w.alloc (.cells #[.bool false,bU 0,bU 0,bU 0,bU 0,bU 0,bU 0] 137)=w1 at K2 HB ⊢;cases r;(case true=>have HE:=aa (show q=(13,zT)from HR.o);go_wp2_with (first|(go_at_call 304;refine(HC.o _ HB.o).mono ?_;rintro e w6 ⟨rfl,eM⟩;have K6:=aa (K2.o.bZ eM K2.o.lt);have eo:=aa (HB.o.trans (eM.mono HB.o.size));clear eM)|(refine cO rfl _ _ _ rfl _ _ rfl rfl _ K6.o dQ rfl rfl ?_;intro w5 K5 gj));exact bodyPost_ret (cM rfl _ _ _ 137 _ _ _ rfl rfl K5.o underlying137 rfl dQ) rfl (HP.o _ _ ⟨by rw[HE.o];rfl,cC eo.o gj aac af⟩));have HE:=aa (show q=(0,MC)from HR.o);go_wp2_with (first|(go_at_call 304;refine(HC.o _ HB.o).mono ?_;rintro e w6 ⟨rfl,eM⟩;have K6:=aa (K2.o.bZ eM K2.o.lt);have eo:=aa (HB.o.trans (eM.mono HB.o.size));clear eM)|(go_at_call 278;refine(HT.o _).mono ?_;rintro e w7 ⟨rfl,nA⟩;have K7:=aa (K6.o.bZ nA K6.o.lt);have j9:=aa (eo.o.trans (nA.mono eo.o.size));clear nA)|(refine cO rfl _ _ _ rfl _ _ rfl rfl _ K7.o dQ rfl rfl ?_;intro w5 K5 gj));exact bodyPost_ret (cM rfl _ _ _ 137 _ _ _ rfl rfl K5.o underlying137 rfl dQ) rfl (HP.o _ _ ⟨by rw[HE.o];rfl,cC j9.o gj aac af⟩)
def GV (op:Int) (n:Nat):Prop:=(op=2→1≤n)∧(op=6∨op=7∨op=10∨op=11∨op=12∨op=13∨op=8∨op=9→2≤n)∧(op=5→3≤n)
theorem oM {args:List nN} {j:Nat} (h:j<args.length):args[j]? =some (args.getD j zT):=by
 rw[aam,List.getElem?_eq_getElem h];rfl
theorem lU {fn:Func} (hf:fn.results=#[.cell 6 137,.tmp 7]) {P:Ending→World→Prop} {q:Int×nN} {w w5:World} {tm:Array Value} {g:Nat} (K5:cN w5 g 137 (pX q.2)) (hp:tm.getD 6 undef= .pointer (bY g 0)) (hv:tm.getD 7 undef=bU q.1)
 (HP:∀ e w',Am q w e w'→P e w') (hb:Below w w w5):bodyPost prog fn P .ret ⟨tm,[]⟩ w5:=
 bodyPost_ret (cM hf _ _ _ 137 _ _ _ hp hv K5 underlying137 rfl dQ) rfl (HP _ _ ⟨rfl,hb⟩)
theorem Ut (m1:Value) (g2:Nat) (ts:List fC) (op n:Int) (un nm:ByteArray) (av:Value) (A:Option Addr) (c:Nat) (args:List nN) (w:World) (hm:mJ w g2 ts) (h6:Ol ts) (hn:nm.size≤maxLen) (hs:Sq qF w Any A args) (hl:args.length≤1000000) (hd:∀ t∈args,t.jQ.length=6) (he:GV op args.length):Calls prog 245 #[.agg #[m1,.map (some g2)],.agg #[bU op,bU n,bV un,bV nm,av],bW A args c] w (Am (Ck.jM ts op nm args) w):=by
 generalize hP:Am (Ck.jM ts op nm args) w=P;have HP:=aa (show ∀ e w',Am (Ck.jM ts op nm args) w e w'→P e w' from fun e w' h=>hP▸h);clear hP;have HM:=aa hm;have H6:=aa h6;have HS:=aa hs;have HD:=aa (show ∀ j,j<args.length→(args.getD j zT).jQ.length=6 from fun j hj=>hd _ (List.mem_of_getElem? (oM hj)));have HE:=aa he;have HLo:=aa (fun W (h:Below w w W)=>Qf A c args W (hs.bZ h) hl);obtain⟨m,hmm⟩:∃ m,m=args.length:=⟨_,rfl⟩;have HN:=aa hmm;rw[← hmm]at hl HLo ⊢;clear hm h6 hs hd he hmm;go_enter func245,ntmps245;go_upto_region 1 with fail;obtain⟨w1,hw1,K0,K1,K2,HB⟩:=oH w [m1,.map (some g2)] [.int .i64 op,.int .i64 n,bV un,bV nm,av] [.bool false,.int .i64 0,.int .i64 0,.int .i64 0,.int .i64 0,.int .i64 0,.int .i64 0] 279 47 137;rw[hw1];clear hw1;have x0:=K0.o.cell;have x1:=K1.o.cell;have lM:=aa (show Below w w w1.drew from⟨HB.o.os,HB.o.tape,HB.o.output,HB.o.size,HB.o.block⟩);have VD:=aa (show cN w1.drew (w+1+1) 137 [.bool false,.int .i64 0,.int .i64 0,.int .i64 0,.int .i64 0,.int .i64 0,.int .i64 0]from K2.o);have HCB:=aa (show ∀ w',Below w1 w1 w'→∀ b' o',b'<w.heap.size+1+1→w'.cell? (bY b' o')=w1.cell? (bY b' o')from fun w' h b' o' hb=>h.cell (p:=bY b' o') (by show b'<w1.heap.size;have:=K1.o.lt;omega));have Q5:=aa (show ∀ w6 w5,Below w1 w1 w6→w6.grownBy w5 (some (w+1+1))→∀ b' o',b'<w.heap.size+1+1→w5.cell? (bY b' o')=w1.cell? (bY b' o')from fun w6 w5 h k b' o' hb=>(World.cell?_of_block (a:=bY b' o') (k.block b' (by have:=K1.o.lt;have:=h.size;omega) (fun e=>by injection e with e;omega))).trans (HCB.o w6 h b' o' hb));have cG:=aa (show Below w1 w1 w1.drew from⟨rfl,rfl,rfl,aaB _,fun _ _=>rfl⟩);have Wi:w.heap.size<w.heap.size+1+1:=af;have hq1:w.heap.size+1<w.heap.size+1+1:=af;have hcs:op=2∨(op=6∨op=7∨op=10∨op=11)∨(op=12∨op=13)∨(op=8∨op=9)∨op=5∨(op≠2∧op≠6∧op≠7∧op≠10∧op≠11∧op≠12∧op≠13∧op≠8∧op≠9∧op≠5):=af;rcases hcs with ho|ho|ho|ho|ho|ho;case inl=>
  subst ho
  have h1:0<m:=by rw[HN.o];exact HE.o.1 rfl
  have HQ:=aa (show Ck.jM ts 2 nm args=w_ ts nm (args.getD 0 zT)from rfl)
  generalize Ck.jM ts 2 nm args=q at HP HQ
  obtain⟨br,o,hA,_,hbr⟩:=HS.o.addr (fun e=>by have h:=HN.o;rw[e]at h;simp at h;omega)
  subst hA
  replace hbr:br<w.heap.size+1+1:=by omega
  have ga:=oM (args:=args) (j:=0) aC
  have la:=HD.o 0 aC
  generalize args.getD 0 zT=a at ga la HQ
  obtain⟨ta,da⟩:=a
  obtain⟨a0,a1,a2,a3,a4,a5,hda⟩:=six la
  dsimp only at hda
  subst hda
  have ca:=uH (HS.o.bZ HB.o) ga
  simp only[pX,ig,aal,aak]at ca
  have ca0:b_ w1 br o (.bool ta):=ca 0 af
  have ca1:b_ w1 br (o+1) (bU a0):=ca 1 af
  have ca2:b_ w1 br (o+2) (bU a1):=ca 2 af
  have ca3:b_ w1 br (o+3) (bU a2):=ca 3 af
  have ca4:b_ w1 br (o+4) (bU a3):=ca 4 af
  have ca5:b_ w1 br (o+5) (bU a4):=ca 5 af
  have ca6:b_ w1 br (o+6) (bU a5):=ca 6 af
  clear ca
  have HK:=aa (fun W (h:Below w w W)=>Ur m1 g2 ts nm ⟨ta,[a0,a1,a2,a3,a4,a5]⟩ W (HM.o.bZ h) H6.o la hn)
  rw[← HQ.o]at HK
  simp only[pX,ig,aal,aak]at HK
  clear ga la HQ
  go_wp2_with fail
  refine dz (S:=fun w'=>∀ b' o',b'<w.heap.size+1+1→w'.cell? (bY b' o')=w1.cell? (bY b' o')) [0,1,3,2,4,5,7,8,10] [(0,false),(1,false),(3,false),(2,false),(4,false),(5,false),(6,true),(7,false),(8,false),(9,true),(10,false)] ah ah au rfl ah (fun _ _ _=>rfl) ?_
  iterate 6 refine hwr ?_
  refine hwt fun K hK=>?_
  go_simp
  refine(HK.o _ (HB.o.trans (cG.o.mono HB.o.size))).mono ?_
  rintro e w6 ⟨rfl,eM⟩
  have K6:=aa ((VD.o).bZ eM (VD.o).lt)
  have eo:=aa ((cG.o).trans (eM.mono (cG.o).size))
  refine hK.o _ _ (HCB.o _ eo.o) ?_
  clear hK K
  refine hwr ?_
  refine hwr ?_
  refine hwt fun K hK=>?_
  refine lT rfl _ _ _ rfl _ _ rfl rfl _ K6.o dQ rfl rfl ?_
  intro w5 K5 gj
  refine hK.o _ _ (Q5.o _ _ eo.o gj) ?_
  clear hK K
  refine hwr ?_
  refine fA ?_
  try go_frame
  go_wp2_with fail
  exact lU rfl K5.o rfl rfl HP.o (cC (HB.o.trans (eo.o.mono HB.o.size)) gj aac af)
 case inr.inl=>
  have h2:1<m:=by rw[HN.o];exact HE.o.2.1 af
  have h1:0<m:=by omega
  have h2i:(1:Int)<(m:Int):=by omega
  have HQ:=aa (show Ck.jM ts op nm args=jU (args.getD 0 zT) (args.getD 1 zT) (args.getD 0 zT) by unfold Ck.jM;rw[if_neg af,if_pos af])
  generalize Ck.jM ts op nm args=q at HP HQ
  obtain⟨br,o,hA,_,hbr⟩:=HS.o.addr (fun e=>by have h:=HN.o;rw[e]at h;simp at h;omega)
  subst hA
  replace hbr:br<w.heap.size+1+1:=by omega
  have ga:=oM (args:=args) (j:=0) aC
  have la:=HD.o 0 aC
  generalize args.getD 0 zT=a at ga la HQ
  obtain⟨ta,da⟩:=a
  obtain⟨a0,a1,a2,a3,a4,a5,hda⟩:=six la
  dsimp only at hda
  subst hda
  have gb:=oM (args:=args) (j:=1) aC
  have lb:=HD.o 1 aC
  generalize args.getD 1 zT=b at gb lb HQ
  obtain⟨tb,db⟩:=b
  obtain⟨b0,b1,b2,b3,b4,b5,hdb⟩:=six lb
  dsimp only at hdb
  subst hdb
  have ca:=uH (HS.o.bZ HB.o) ga
  simp only[pX,ig,aal,aak]at ca
  have ca0:b_ w1 br o (.bool ta):=ca 0 af
  have ca1:b_ w1 br (o+1) (bU a0):=ca 1 af
  have ca2:b_ w1 br (o+2) (bU a1):=ca 2 af
  have ca3:b_ w1 br (o+3) (bU a2):=ca 3 af
  have ca4:b_ w1 br (o+4) (bU a3):=ca 4 af
  have ca5:b_ w1 br (o+5) (bU a4):=ca 5 af
  have ca6:b_ w1 br (o+6) (bU a5):=ca 6 af
  clear ca
  have cb:=uH (HS.o.bZ HB.o) gb
  simp only[pX,ig,aal,aak]at cb
  have cb0:b_ w1 br (o+7) (.bool tb):=cb 0 af
  have cb1:b_ w1 br (o+8) (bU b0):=cb 1 af
  have cb2:b_ w1 br (o+9) (bU b1):=cb 2 af
  have cb3:b_ w1 br (o+10) (bU b2):=cb 3 af
  have cb4:b_ w1 br (o+11) (bU b3):=cb 4 af
  have cb5:b_ w1 br (o+12) (bU b4):=cb 5 af
  have cb6:b_ w1 br (o+13) (bU b5):=cb 6 af
  clear cb
  have HK:=aa (fun W=>yR ⟨ta,[a0,a1,a2,a3,a4,a5]⟩ ⟨tb,[b0,b1,b2,b3,b4,b5]⟩ ⟨ta,[a0,a1,a2,a3,a4,a5]⟩ W la lb)
  rw[← HQ.o]at HK
  simp only[pX,ig,aal,aak]at HK
  clear ga la gb lb HQ
  rcases ho with rfl|rfl|rfl|rfl
  all_goals (
   go_wp2_with fail
   refine dz (S:=fun w'=>∀ b' o',b'<w.heap.size+1+1→w'.cell? (bY b' o')=w1.cell? (bY b' o')) [0,3,6,1,4,7,2,5,8,10,11,13] [(0,false),(3,false),(6,false),(1,false),(4,false),(7,false),(2,false),(5,false),(8,false),(9,true),(10,false),(11,false),(12,true),(13,false)] ah ah au rfl ah (fun _ _ _=>rfl) ?_
   iterate 9 refine hwr ?_
   refine hwt fun K hK=>?_
   go_simp
   refine(HK.o _).mono ?_
   rintro e w6 ⟨rfl,eM⟩
   have K6:=aa ((VD.o).bZ eM (VD.o).lt)
   have eo:=aa ((cG.o).trans (eM.mono (cG.o).size))
   refine hK.o _ _ (HCB.o _ eo.o) ?_
   clear hK K
   refine hwr ?_
   refine hwr ?_
   refine hwt fun K hK=>?_
   refine lT rfl _ _ _ rfl _ _ rfl rfl _ K6.o dQ rfl rfl ?_
   intro w5 K5 gj
   refine hK.o _ _ (Q5.o _ _ eo.o gj) ?_
   clear hK K
   refine hwr ?_
   refine fA ?_
   try go_frame
   go_wp2_with fail
   exact lU rfl K5.o rfl rfl HP.o (cC (HB.o.trans (eo.o.mono HB.o.size)) gj aac af))
 case inr.inr.inl=>
  have h2:1<m:=by rw[HN.o];exact HE.o.2.1 af
  have h1:0<m:=by omega
  have h2i:(1:Int)<(m:Int):=by omega
  have HQ:=aa (show Ck.jM ts op nm args=jU (args.getD 0 zT) (args.getD 1 zT) MC by unfold Ck.jM;rw[if_neg af,if_neg af,if_pos af])
  generalize Ck.jM ts op nm args=q at HP HQ
  obtain⟨br,o,hA,_,hbr⟩:=HS.o.addr (fun e=>by have h:=HN.o;rw[e]at h;simp at h;omega)
  subst hA
  replace hbr:br<w.heap.size+1+1:=by omega
  have ga:=oM (args:=args) (j:=0) aC
  have la:=HD.o 0 aC
  generalize args.getD 0 zT=a at ga la HQ
  obtain⟨ta,da⟩:=a
  obtain⟨a0,a1,a2,a3,a4,a5,hda⟩:=six la
  dsimp only at hda
  subst hda
  have gb:=oM (args:=args) (j:=1) aC
  have lb:=HD.o 1 aC
  generalize args.getD 1 zT=b at gb lb HQ
  obtain⟨tb,db⟩:=b
  obtain⟨b0,b1,b2,b3,b4,b5,hdb⟩:=six lb
  dsimp only at hdb
  subst hdb
  have ca:=uH (HS.o.bZ HB.o) ga
  simp only[pX,ig,aal,aak]at ca
  have ca0:b_ w1 br o (.bool ta):=ca 0 af
  have ca1:b_ w1 br (o+1) (bU a0):=ca 1 af
  have ca2:b_ w1 br (o+2) (bU a1):=ca 2 af
  have ca3:b_ w1 br (o+3) (bU a2):=ca 3 af
  have ca4:b_ w1 br (o+4) (bU a3):=ca 4 af
  have ca5:b_ w1 br (o+5) (bU a4):=ca 5 af
  have ca6:b_ w1 br (o+6) (bU a5):=ca 6 af
  clear ca
  have cb:=uH (HS.o.bZ HB.o) gb
  simp only[pX,ig,aal,aak]at cb
  have cb0:b_ w1 br (o+7) (.bool tb):=cb 0 af
  have cb1:b_ w1 br (o+8) (bU b0):=cb 1 af
  have cb2:b_ w1 br (o+9) (bU b1):=cb 2 af
  have cb3:b_ w1 br (o+10) (bU b2):=cb 3 af
  have cb4:b_ w1 br (o+11) (bU b3):=cb 4 af
  have cb5:b_ w1 br (o+12) (bU b4):=cb 5 af
  have cb6:b_ w1 br (o+13) (bU b5):=cb 6 af
  clear cb
  have HK:=aa (fun W=>yR ⟨ta,[a0,a1,a2,a3,a4,a5]⟩ ⟨tb,[b0,b1,b2,b3,b4,b5]⟩ MC W la lb)
  rw[← HQ.o]at HK
  simp only[pX,ig,aal,aak]at HK
  have HT:=aa (fun W=>Dm W)
  simp only[pX,ig,aal,aak]at HT
  clear ga la gb lb HQ
  rcases ho with rfl|rfl
  all_goals (
   go_wp2_with fail
   refine dz (S:=fun w'=>∀ b' o',b'<w.heap.size+1+1→w'.cell? (bY b' o')=w1.cell? (bY b' o')) [0,3,1,4,2,5,8,9,11] [(0,false),(3,false),(1,false),(4,false),(2,false),(5,false),(6,true),(7,true),(8,false),(9,false),(10,true),(11,false)] ah ah au rfl ah (fun _ _ _=>rfl) ?_
   iterate 6 refine hwr ?_
   refine hwt fun K hK=>?_
   go_simp
   refine(HT.o _).mono ?_
   rintro e w7 ⟨rfl,nA⟩
   have K7:=aa (VD.o.bZ nA VD.o.lt)
   have j9:=aa (cG.o.trans (nA.mono cG.o.size))
   refine hK.o _ _ (HCB.o _ j9.o) ?_
   clear hK K
   refine hwt fun K hK=>?_
   go_simp
   refine(HK.o _).mono ?_
   rintro e w6 ⟨rfl,eM⟩
   have K6:=aa ((K7.o).bZ eM (K7.o).lt)
   have eo:=aa ((j9.o).trans (eM.mono (j9.o).size))
   refine hK.o _ _ (HCB.o _ eo.o) ?_
   clear hK K
   refine hwr ?_
   refine hwr ?_
   refine hwt fun K hK=>?_
   refine lT rfl _ _ _ rfl _ _ rfl rfl _ K6.o dQ rfl rfl ?_
   intro w5 K5 gj
   refine hK.o _ _ (Q5.o _ _ eo.o gj) ?_
   clear hK K
   refine hwr ?_
   refine fA ?_
   try go_frame
   go_wp2_with fail
   exact lU rfl K5.o rfl rfl HP.o (cC (HB.o.trans (eo.o.mono HB.o.size)) gj aac af))
 case inr.inr.inr.inl=>
  have h2:1<m:=by rw[HN.o];exact HE.o.2.1 af
  have h1:0<m:=by omega
  have h2i:(1:Int)<(m:Int):=by omega
  have HQ:=aa (show Ck.jM ts op nm args=xe op (args.getD 0 zT) (args.getD 1 zT) by unfold Ck.jM;rw[if_neg af,if_neg af,if_neg af,if_pos af])
  generalize Ck.jM ts op nm args=q at HP HQ
  obtain⟨br,o,hA,_,hbr⟩:=HS.o.addr (fun e=>by have h:=HN.o;rw[e]at h;simp at h;omega)
  subst hA
  replace hbr:br<w.heap.size+1+1:=by omega
  have ga:=oM (args:=args) (j:=0) aC
  have la:=HD.o 0 aC
  generalize args.getD 0 zT=a at ga la HQ
  obtain⟨ta,da⟩:=a
  obtain⟨a0,a1,a2,a3,a4,a5,hda⟩:=six la
  dsimp only at hda
  subst hda
  have gb:=oM (args:=args) (j:=1) aC
  have lb:=HD.o 1 aC
  generalize args.getD 1 zT=b at gb lb HQ
  obtain⟨tb,db⟩:=b
  obtain⟨b0,b1,b2,b3,b4,b5,hdb⟩:=six lb
  dsimp only at hdb
  subst hdb
  have ca:=uH (HS.o.bZ HB.o) ga
  simp only[pX,ig,aal,aak]at ca
  have ca0:b_ w1 br o (.bool ta):=ca 0 af
  have ca1:b_ w1 br (o+1) (bU a0):=ca 1 af
  have ca2:b_ w1 br (o+2) (bU a1):=ca 2 af
  have ca3:b_ w1 br (o+3) (bU a2):=ca 3 af
  have ca4:b_ w1 br (o+4) (bU a3):=ca 4 af
  have ca5:b_ w1 br (o+5) (bU a4):=ca 5 af
  have ca6:b_ w1 br (o+6) (bU a5):=ca 6 af
  clear ca
  have cb:=uH (HS.o.bZ HB.o) gb
  simp only[pX,ig,aal,aak]at cb
  have cb0:b_ w1 br (o+7) (.bool tb):=cb 0 af
  have cb1:b_ w1 br (o+8) (bU b0):=cb 1 af
  have cb2:b_ w1 br (o+9) (bU b1):=cb 2 af
  have cb3:b_ w1 br (o+10) (bU b2):=cb 3 af
  have cb4:b_ w1 br (o+11) (bU b3):=cb 4 af
  have cb5:b_ w1 br (o+12) (bU b4):=cb 5 af
  have cb6:b_ w1 br (o+13) (bU b5):=cb 6 af
  clear cb
  have HK:=aa (fun W=>JW op ⟨ta,[a0,a1,a2,a3,a4,a5]⟩ ⟨tb,[b0,b1,b2,b3,b4,b5]⟩ W la lb)
  rw[← HQ.o]at HK
  simp only[pX,ig,aal,aak]at HK
  clear ga la gb lb HQ
  rcases ho with rfl|rfl
  all_goals (
   go_wp2_with fail
   refine dz (S:=fun w'=>∀ b' o',b'<w.heap.size+1+1→w'.cell? (bY b' o')=w1.cell? (bY b' o')) [0,2,5,1,3,6,4,7,9,10,12] [(0,false),(2,false),(5,false),(1,false),(3,false),(6,false),(4,false),(7,false),(8,true),(9,false),(10,false),(11,true),(12,false)] ah ah au rfl ah (fun _ _ _=>rfl) ?_
   iterate 8 refine hwr ?_
   refine hwt fun K hK=>?_
   go_simp
   refine(HK.o _).mono ?_
   rintro e w6 ⟨rfl,eM⟩
   have K6:=aa ((VD.o).bZ eM (VD.o).lt)
   have eo:=aa ((cG.o).trans (eM.mono (cG.o).size))
   refine hK.o _ _ (HCB.o _ eo.o) ?_
   clear hK K
   refine hwr ?_
   refine hwr ?_
   refine hwt fun K hK=>?_
   refine lT rfl _ _ _ rfl _ _ rfl rfl _ K6.o dQ rfl rfl ?_
   intro w5 K5 gj
   refine hK.o _ _ (Q5.o _ _ eo.o gj) ?_
   clear hK K
   refine hwr ?_
   refine fA ?_
   try go_frame
   go_wp2_with fail
   exact lU rfl K5.o rfl rfl HP.o (cC (HB.o.trans (eo.o.mono HB.o.size)) gj aac af))
 case inr.inr.inr.inr.inl=>
  subst ho
  have h3:2<m:=by rw[HN.o];exact HE.o.2.2 rfl
  have h2:1<m:=by omega
  have h1:0<m:=by omega
  have h2i:(1:Int)<(m:Int):=by omega
  have h3i:(2:Int)<(m:Int):=by omega
  have HQ:Hid (Ck.jM ts 5 nm args=(if(args.getD 0 zT).truth then jU (args.getD 1 zT) (args.getD 2 zT) (args.getD 1 zT)else(13,zT):Int×nN)):=aa rfl
  generalize Ck.jM ts 5 nm args=q at HP HQ
  obtain⟨br,o,hA,_,hbr⟩:=HS.o.addr (fun e=>by have h:=HN.o;rw[e]at h;simp at h;omega)
  subst hA
  replace hbr:br<w.heap.size+1+1:=by omega
  have ga:=oM (args:=args) (j:=0) aC
  have la:=HD.o 0 aC
  generalize args.getD 0 zT=a at ga la HQ
  obtain⟨ta,da⟩:=a
  obtain⟨a0,a1,a2,a3,a4,a5,hda⟩:=six la
  dsimp only at hda
  subst hda
  have gb:=oM (args:=args) (j:=1) aC
  have lb:=HD.o 1 aC
  generalize args.getD 1 zT=b at gb lb HQ
  obtain⟨tb,db⟩:=b
  obtain⟨b0,b1,b2,b3,b4,b5,hdb⟩:=six lb
  dsimp only at hdb
  subst hdb
  have gc:=oM (args:=args) (j:=2) aC
  have lc:=HD.o 2 aC
  generalize args.getD 2 zT=c at gc lc HQ
  obtain⟨tc,dc⟩:=c
  obtain⟨c0,c1,c2,c3,c4,c5,hdc⟩:=six lc
  dsimp only at hdc
  subst hdc
  have ca:=uH (HS.o.bZ HB.o) ga
  simp only[pX,ig,aal,aak]at ca
  have ca0:b_ w1 br o (.bool ta):=ca 0 af
  have ca1:b_ w1 br (o+1) (bU a0):=ca 1 af
  have ca2:b_ w1 br (o+2) (bU a1):=ca 2 af
  have ca3:b_ w1 br (o+3) (bU a2):=ca 3 af
  have ca4:b_ w1 br (o+4) (bU a3):=ca 4 af
  have ca5:b_ w1 br (o+5) (bU a4):=ca 5 af
  have ca6:b_ w1 br (o+6) (bU a5):=ca 6 af
  clear ca
  have cb:=uH (HS.o.bZ HB.o) gb
  simp only[pX,ig,aal,aak]at cb
  have cb0:b_ w1 br (o+7) (.bool tb):=cb 0 af
  have cb1:b_ w1 br (o+8) (bU b0):=cb 1 af
  have cb2:b_ w1 br (o+9) (bU b1):=cb 2 af
  have cb3:b_ w1 br (o+10) (bU b2):=cb 3 af
  have cb4:b_ w1 br (o+11) (bU b3):=cb 4 af
  have cb5:b_ w1 br (o+12) (bU b4):=cb 5 af
  have cb6:b_ w1 br (o+13) (bU b5):=cb 6 af
  clear cb
  have cc:=uH (HS.o.bZ HB.o) gc
  simp only[pX,ig,aal,aak]at cc
  have cc0:b_ w1 br (o+14) (.bool tc):=cc 0 af
  have Z8:b_ w1 br (o+15) (bU c0):=cc 1 af
  have cc2:b_ w1 br (o+16) (bU c1):=cc 2 af
  have cc3:b_ w1 br (o+17) (bU c2):=cc 3 af
  have cc4:b_ w1 br (o+18) (bU c3):=cc 4 af
  have cc5:b_ w1 br (o+19) (bU c4):=cc 5 af
  have cc6:b_ w1 br (o+20) (bU c5):=cc 6 af
  clear cc
  have HK:=aa (fun W=>yR ⟨tb,[b0,b1,b2,b3,b4,b5]⟩ ⟨tc,[c0,c1,c2,c3,c4,c5]⟩ ⟨tb,[b0,b1,b2,b3,b4,b5]⟩ W lb lc)
  clear ga la gb lb gc lc
  cases ta
  case false=>
   have L8:=aa (show q=(13,zT)from HQ.o);go_wp2_with (refine cO rfl _ _ _ rfl _ _ rfl rfl _ K2.o dQ rfl rfl ?_;intro w5 K5 gj);exact lU (q:=q) rfl (by rw[L8.o];exact K5.o) rfl (by rw[L8.o];rfl) HP.o (cC HB.o gj aac af)
  case true=>
   replace HQ:=aa (show q=jU ⟨tb,[b0,b1,b2,b3,b4,b5]⟩ ⟨tc,[c0,c1,c2,c3,c4,c5]⟩ ⟨tb,[b0,b1,b2,b3,b4,b5]⟩from HQ.o)
   rw[← HQ.o]at HK
   simp only[pX,ig,aal,aak]at HK
   go_wp2_with fail
   refine dz (S:=fun w'=>∀ b' o',b'<w.heap.size+1+1→w'.cell? (bY b' o')=w1.cell? (bY b' o')) [0,3,6,1,4,7,2,5,8,10,11,13] [(0,false),(3,false),(6,false),(1,false),(4,false),(7,false),(2,false),(5,false),(8,false),(9,true),(10,false),(11,false),(12,true),(13,false)] ah ah au rfl ah (fun _ _ _=>rfl) ?_
   iterate 9 refine hwr ?_
   refine hwt fun K hK=>?_
   go_simp
   refine(HK.o _).mono ?_
   rintro e w6 ⟨rfl,eM⟩
   have K6:=aa ((VD.o).bZ eM (VD.o).lt)
   have eo:=aa ((cG.o).trans (eM.mono (cG.o).size))
   refine hK.o _ _ (HCB.o _ eo.o) ?_
   clear hK K
   refine hwr ?_
   refine hwr ?_
   refine hwt fun K hK=>?_
   refine lT rfl _ _ _ rfl _ _ rfl rfl _ K6.o dQ rfl rfl ?_
   intro w5 K5 gj
   refine hK.o _ _ (Q5.o _ _ eo.o gj) ?_
   clear hK K
   refine hwr ?_
   refine fA ?_
   try go_frame
   go_wp2_with fail
   exact lU rfl K5.o rfl rfl HP.o (cC (HB.o.trans (eo.o.mono HB.o.size)) gj aac af)
 (case inr.inr.inr.inr.inr=>have HQ:=aa (show Ck.jM ts op nm args=rz args by unfold Ck.jM;rw[if_neg af,if_neg af,if_neg af,if_neg af,if_neg af]);generalize Ck.jM ts op nm args=q at HP HQ;rw[← HQ.o]at HLo;obtain⟨e2,e6,e7,e10,e11,e12,e13,e8,e9,e5⟩:=ho;have z2:(op==2)=false:=(by simpa using e2);have z6:(op==6)=false:=(by simpa using e6);have z7:(op==7)=false:=(by simpa using e7);have z10:(op==10)=false:=(by simpa using e10);have z11:(op==11)=false:=(by simpa using e11);have z12:(op==12)=false:=(by simpa using e12);have z13:(op==13)=false:=(by simpa using e13);have z8:(op==8)=false:=(by simpa using e8);have z9:(op==9)=false:=(by simpa using e9);have z5:(op==5)=false:=(by simpa using e5);clear e2 e6 e7 e10 e11 e12 e13 e8 e9 e5;go_wp2_with (first|(go_at_call 280;refine(HLo.o _ HB.o).mono ?_;rintro e w6 ⟨rfl,eM⟩;have K6:=aa (K2.o.bZ eM K2.o.lt);have eo:=aa (HB.o.trans (eM.mono HB.o.size));clear eM)|(refine cO rfl _ _ _ rfl _ _ rfl rfl _ K6.o dQ rfl rfl ?_;intro w5 K5 gj));exact lU rfl K5.o rfl rfl HP.o (cC eo.o gj aac af))
theorem JX:∀ (l:List iQ) (d:List Int) {e:List Int},r6 l d=some e→e.length=d.length
 |[],d,e,h=>by unfold r6 at h;injection h with h;rw[h]
 |x :: l,d,e,h=>by
  unfold r6 at h;split at h
  (·cases h);next k z _=>
  rw[JX l _ h];unfold Rq;rw[List.length_set]
theorem j8 (s:ByteArray):(iw s).length=6:=by
 unfold iw jK;split
 (·rfl);split
 (·rfl);next d h=>
 split
 (·have:=JX _ _ h;exact this);rfl
theorem Bn (vs ts:List fC):∀ (a b:List cw),Aj vs ts (a++b)=(match Aj vs ts a with
 | .inl e=> .inl e
 | .inr xs=>match Aj vs ts b with
  | .inl e=> .inl e
  | .inr ys=> .inr (xs++ys))
 |[],b=>by
  rw[List.nil_append];simp only[Aj];cases Aj vs ts b<;>rfl
 |x :: a,b=>by
  rw[List.cons_append,Aj,Aj,Bn vs ts a b];by_cases h:(xh vs ts x).1=0
  ·simp only[h,if_true];cases Aj vs ts a with
   |inl e=>rfl
   |inr xs=>cases Aj vs ts b<;>rfl
  simp only[h,if_false]
theorem Om (vs ts:List fC) (x:cw):Aj vs ts [x]=if(xh vs ts x).1=0 then .inr [(xh vs ts x).2]else .inl (xh vs ts x).1:=by
 simp only[Aj]
theorem Uu {vs ts:List fC} {l:List cw} {k:Nat} (hk:k<l.length) {xs:List nN} (h:Aj vs ts (l.take k)= .inr xs) (h0:(xh vs ts l[k]).1=0):Aj vs ts (l.take (k+1))= .inr (xs++[(xh vs ts l[k]).2]):=by
 rw[aaz hk,Bn,h,Om,if_pos h0]
theorem Uv {vs ts:List fC} {l:List cw} {k:Nat} (hk:k<l.length) {xs:List nN} (h:Aj vs ts (l.take k)= .inr xs) (h0:¬(xh vs ts l[k]).1=0):Aj vs ts l= .inl (xh vs ts l[k]).1:=by
 (have e:l=l.take k++([l[k]]++l.drop (k+1)):=by rw[List.singleton_append, ← aah hk,List.take_append_drop]);(conv=>lhs;rw[e]);rw[Bn,h,Bn,Om,if_neg h0]
theorem vw {a b r:nN} (h:r.jQ.length=6):(jU a b r).2.jQ.length=6:=by
 unfold jU;split
 (·rfl);split
 (·exact h);rfl
theorem Qg {op:Int} {a b:nN}:(xe op a b).2.jQ.length=6:=by
 unfold xe;split
 (·rfl);split
 (·exact Qd);rfl
theorem MR {args:List nN}:(rz args).2.jQ.length=6:=by
 unfold rz;split<;>rfl
theorem Qh {vs:List fC} (h:Ol vs) {op:Int} {u nm:ByteArray}:(uG vs op u nm).2.jQ.length=6:=by
 unfold uG;split
 ·split
  (·rfl);(next d hd=>exact h _ _ hd)
 split
 (·exact j8 u);rfl
theorem Qi {ts:List fC} (h:Ol ts) {nm:ByteArray} {key:nN}:(w_ ts nm key).2.jQ.length=6:=by
 unfold w_;split
 (·rfl);next d hd=>
 split
 (·rfl);split
 (·exact h _ _ hd);rfl
theorem JY {args:List nN} (h:∀ t∈args,t.jQ.length=6) (j:Nat):(args.getD j zT).jQ.length=6:=by
 rw[aam];cases hj:args[j]? with
 |none=>rfl
 |some t=>exact h t (List.mem_of_getElem? hj)
theorem Qj {ts:List fC} (h:Ol ts) {op:Int} {nm:ByteArray} {args:List nN} (ha:∀ t∈args,t.jQ.length=6):(Ck.jM ts op nm args).2.jQ.length=6:=by
 unfold Ck.jM;split
 (·exact Qi h);split
 (·exact vw (JY ha 0));split
 (·exact vw rfl);split
 (·exact Qg);split
 ·split
  (·exact vw (JY ha 1));rfl
 exact MR
theorem Oo {vs ts:List fC} (hv:Ol vs) (ht:Ol ts) (N:Nat):∀ x:cw,cE x≤N→(xh vs ts x).2.jQ.length=6:=by
 induction N with
 |zero=>intro x hx;have:=dB x;omega
 |succ N ih=>
  intro x hx;cases x with
  |mk op n u nm l=>
   have h2:cE (.mk op n u nm l)=1+cR l:=aM;have hL:∀ l:List cw,cR l≤N→∀ xs,Aj vs ts l= .inr xs→∀ t∈xs,t.jQ.length=6:=by
    intro l;induction l with
    |nil=>intro _ xs h t htm;simp only[Aj]at h;injection h with h;subst h;cases htm
    |cons y l ihl=>
     intro hn xs h t htm;have e:cR (y :: l)=cE y+cR l:=(by rw[cR]);rw[Aj]at h;dsimp only at h;by_cases h0:(xh vs ts y).1=0
     ·rw[if_pos h0]at h;cases hr:Aj vs ts l with
      |inl e=>rw[hr]at h;cases h
      |inr ys=>
       rw[hr]at h;injection h with h;subst h;rcases aas.1 htm with rfl|hm
       (·exact ih y af);exact ihl af ys hr t hm
     rw[if_neg h0]at h;cases h
   unfold xh;cases l with
   |nil=>exact Qh hv
   |cons y l=>
    dsimp only;cases hr:Aj vs ts (y :: l)with
    |inl e=>rfl
    |inr xs=>exact Qj ht (hL _ af xs hr)
theorem tv:∀ {l:List cw},lF l=true→∀ y∈l,gJ y=true
 |[],_,y,h=>by cases h
 |x :: l,h,y,hy=>by
  simp only[lF,aag]at h;rcases aas.1 hy with rfl|h2
  (·exact h.1);exact tv h.2 y h2
theorem Qk {op n:Int} {u nm:ByteArray} {k:Nat} (h:p9 op n u nm k=true):GV op k:=by
 unfold p9 at h;refine⟨fun e=>?_,fun e=>?_,fun e=>?_⟩
 (·subst e;simp at h;omega)
 (·rcases e with rfl|rfl|rfl|rfl|rfl|rfl|rfl|rfl<;>simp at h<;>omega);subst e;simp at h;omega
theorem Xq {vs ts:List fC} {op n:Int} {u nm:ByteArray}:xh vs ts (.mk op n u nm [])=uG vs op u nm:=by
 unfold xh;dsimp only
def nodeR (ts:List fC) (op:Int) (nm:ByteArray):Int ⊕ List nN→Int×nN
 | .inl e=>(e,zT)
 | .inr args=>Ck.jM ts op nm args
theorem Uw {vs ts:List fC} {op n:Int} {u nm:ByteArray} {l:List cw} (h:¬l.length=0):xh vs ts (.mk op n u nm l)=nodeR ts op nm (Aj vs ts l):=by
 cases l with
 |nil=>exact absurd rfl h
 |cons y l=>
  unfold xh;dsimp only;cases Aj vs ts (y :: l)with
  |inl e=>rfl
  |inr args=>rfl
theorem Dq {fn:Func} (hf:fn.results=#[.cell 4 137,.tmp 5]) {P:Ending→World→Prop} {q:Int×nN} {w w5:World} {tm:Array Value} {g:Nat} (K5:cN w5 g 137 (pX q.2)) (hp:tm.getD 4 undef= .pointer (bY g 0)) (hv:tm.getD 5 undef=bU q.1)
 (HP:∀ e w',Am q w e w'→P e w') (hb:Below w w w5):bodyPost prog fn P .ret ⟨tm,[]⟩ w5:=
 bodyPost_ret (cM hf _ _ _ 137 _ _ _ hp hv K5 underlying137 rfl dQ) rfl (HP _ _ ⟨rfl,hb⟩)
theorem Tryz.infTyq:Pj prog 312 137 7:= .of (.agg #[.bool false,bU 0,bU 0,bU 0,bU 0,bU 0,bU 0]) 56 underlying312 ah rfl ak ak
theorem inf_of (g1 g2:Nat) (vs ts:List fC) (hv:Ol vs) (ht:Ol ts) (N:Nat) (hN:N≤1000000):∀ (x:cw),cE x≤N→gJ x=true→lV x→∀ (w:World) (cs:List Value),mJ w g1 vs→mJ w g2 ts→cH w Any cs x→Calls prog 201 #[.agg #[.map (some g1),.map (some g2)],.agg cs.toArray] w (Am (xh vs ts x) w):=by
 induction N with
 |zero=>intro x hx;have:=dB x;omega
 |succ N ih=>
  intro x hx hsh hsm w cs Cc hm2 hI
  replace ih:=ih af
  obtain⟨op,n,un,nm,A2,c2,ar,e1,e2,hS⟩:=cH.parts hI
  subst e1 e2
  generalize hP:Am (xh vs ts (.mk op n un nm ar)) w=P
  have HP:=aa (show ∀ e w',Am (xh vs ts (.mk op n un nm ar)) w e w'→P e w' from fun e w' h=>hP▸h)
  clear hP
  have xH:cE (.mk op n un nm ar)=1+cR ar:=by unfold cE;rfl
  have hnl:=fZ ar
  have har:ar.length≤1000000:=by omega
  have hsh2:p9 op n un nm ar.length=true∧lF ar=true:=by simpa [gJ]using hsh
  have HE:=aa (Qk hsh2.1)
  have vB:=aa (fun y (hy:y∈ar)=>ih y bq (tv hsh2.2 y hy))
  have HA:=aa hS
  have HM1:=aa Cc
  have GH:=aa hm2
  have vH:=aa (show ∀ y∈ar,lV y from by unfold lV at hsm;exact hsm.2.2.mem)
  have AR:nm.size≤maxLen:=by unfold lV at hsm;exact hsm.2.1
  have Tb:un.size≤maxLen:=by unfold lV at hsm;exact hsm.1
  have HL:=aa (fun y=>Oo hv ht _ y aac)
  have HLf:=aa (fun W (h:Below w w W)=>Us g1 (.map (some g2)) vs op n un nm (bW A2 ar c2) W (Cc.bZ h) hv Tb AR)
  have Vz:=aa (fun W A c args (h:Below w w W) (hq:Sq qF W Any A args) (hl:args.length≤1000000) (hd:∀ t∈args,t.jQ.length=6) (he:GV op args.length)=>Ut (.map (some g1)) g2 ts op n un nm (bW A2 ar c2) A c args W (hm2.bZ h) ht AR hq hl hd he)
  have HOf1:=aa (fun(h:ar=[])=>(show xh vs ts (.mk op n un nm ar)=uG vs op un nm by subst h;exact Xq))
  have Sz:=aa (fun(h:¬ar.length=0)=>Uw (vs:=vs) (ts:=ts) (op:=op) (n:=n) (u:=un) (nm:=nm) h)
  clear hI hS Cc hm2 ih hsm hx xH hnl hsh hsh2
  generalize xh vs ts (.mk op n un nm ar)=q at HP Sz HOf1
  go_enter func201,ntmps201
  go_upto_region 1 with fail
  obtain⟨w1,hw1,K0,K1,K2,HB⟩:=oH w [.map (some g1),.map (some g2)] [.int .i64 op,.int .i64 n,bV un,bV nm,bW A2 ar c2] [.bool false,.int .i64 0,.int .i64 0,.int .i64 0,.int .i64 0,.int .i64 0,.int .i64 0] 279 47 137
  rw[hw1]
  clear hw1
  obtain⟨p,hp⟩:∃ p,p=w.heap.size:=⟨_,rfl⟩
  have xN:=aa hp
  rw[← hp]at K0 K1 K2 ⊢
  clear hp
  have fG:=aa (show p+3≤w1.heap.size by have:=K2.o.lt;omega)
  have x0:=K0.o.cell
  have x1:=K1.o.cell
  by_cases hnil:ar.length=0
  case pos=>
   have hE:ar=[]:=List.eq_nil_of_length_eq_zero hnil;have L8:=aa (HOf1.o hE);subst hE;have HLf2:=aa (HLf.o w1 HB.o);simp only[List.length_nil]at HLf2 ⊢;rw[← L8.o]at HLf2;go_wp2_with (first|(go_at_call 244;refine HLf2.o.mono ?_;rintro e w6 ⟨rfl,eM⟩;have K6:=aa (K2.o.bZ eM K2.o.lt);have eo:=aa (HB.o.trans (eM.mono HB.o.size));clear eM)|(refine cO rfl _ _ _ rfl _ _ rfl rfl _ K6.o dQ rfl rfl ?_;intro w5 K5 gj));exact Dq rfl K5.o rfl rfl HP.o (cC eo.o gj aac aZ)
  case neg=>
   have Ux:=aa (Sz.o hnil);have z0:((ar.length:Int)==0)=false:=aU;have uy:=aa (show dM qF 137 (p+3) w1 (fun _=>False) cD []from dM.qK);clear hnil Sz HLf;go_wp2;go_loopw [6,23] (fun v s8 wr=>∃ (k:Nat) (tl:List nN),k≤ar.length∧s8=bU (k:Int)∧Hid (tl.length=k)∧Hid (Aj vs ts (ar.take k)= .inr tl)∧Hid (∀ t∈tl,t.jQ.length=6)∧Hid (dM qF 137 (p+3) wr (fun _=>False) v tl)∧Hid (Below (p+3) w1 wr)) (fun _ s8 _=>ar.length - (intOf s8).toNat);(case atStart=>exact⟨0,[],aaG _,rfl,aa rfl,aa (by simp[Aj]),aa ai,uy,aa ((aaf w1 w1).mono fG.o)⟩);clear uy x0 x1;obtain⟨k,tl,hk,rfl,Has,HO,Hd,HQ,sJ⟩:=hrel;have cG:=aa (show Below w w wr from HB.o.trans (sJ.o.mono aZ));have K0r:=aa (K0.o.bZ sJ.o af);have K1r:=aa (K1.o.bZ sJ.o af);have K2r:=aa (K2.o.bZ sJ.o af);by_cases hlt:k<ar.length;case pos=>
    obtain⟨bl,o,cs,hA,xM,hbl,ey,cT⟩:=(HA.o.bZ cG.o).get hlt;subst hA;have hmem:=aan hlt;have Xr:=aa (fun(h0:(xh vs ts ar[k]).1=0)=>Uu hlt HO.o h0);have yD:=aa (fun(h0:¬(xh vs ts ar[k]).1=0)=>Uv hlt HO.o h0);have Ai:=vB.o _ hmem (vH.o _ hmem);have HL6:=aa (HL.o ar[k]);obtain⟨eU,yn,eV,eW,A3,c3,yr,qX,hes,_⟩:=cH.parts ey;generalize ar[k]=y at ey Ai qX Xr yD HL6;subst hes;have g0:b_ wr bl (o+k*5) (bU eU):=cT 0 _ rfl;have g1':b_ wr bl (o+k*5+1) (bU yn):=cT 1 _ rfl;have g2':b_ wr bl (o+k*5+2) (bV eV):=cT 2 _ rfl;have g3:b_ wr bl (o+k*5+3) (bV eW):=cT 3 _ rfl;have g4:b_ wr bl (o+k*5+4) (bW A3 yr c3):=cT 4 _ rfl;have HY:=aa (show cN (wr.alloc (.cells #[bU eU,bU yn,bV eV,bV eW,bW A3 yr c3] 47)) wr 47 [bU eU,bU yn,bV eV,bV eW,bW A3 yr c3]from heap_alloc_new wr _);have fL:Below wr wr (wr.alloc (.cells #[bU eU,bU yn,bV eV,bV eW,bW A3 yr c3] 47)):=cS _;have Lx:=cG.o.trans (fL.mono cG.o.size);have hcc:=Ai _ _ (HM1.o.bZ Lx) (GH.o.bZ Lx) (dh.keep ey (cB.cA fL));obtain⟨rt,hrt⟩:∃ rt,rt=(xh vs ts y).2:=⟨_,rfl⟩;obtain⟨re,wT⟩:∃ re,re=(xh vs ts y).1:=⟨_,rfl⟩;have tX:Hid (Calls prog 201 #[.agg #[.map (some g1),.map (some g2)],.agg #[bU eU,bU yn,bV eV,bV eW,bW A3 yr c3]] (wr.alloc (.cells #[bU eU,bU yn,bV eV,bV eW,bW A3 yr c3] 47)) fun e w'=>e= .returned (.tuple #[.agg #[.bool rt.truth,bU (rt.jQ.getD 0 0),bU (rt.jQ.getD 1 0),bU (rt.jQ.getD 2 0),bU (rt.jQ.getD 3 0),bU (rt.jQ.getD 4 0),bU (rt.jQ.getD 5 0)],bU re])∧Below (wr.alloc (.cells #[bU eU,bU yn,bV eV,bV eW,bW A3 yr c3] 47)).heap.size (wr.alloc (.cells #[bU eU,bU yn,bV eV,bV eW,bW A3 yr c3] 47)) w'):=aa (by rw[hrt,wT];exact hcc);rw[← wT, ← hrt]at Xr;rw[← wT]at yD;rw[← hrt]at HL6;have HT:Hid (pX rt=[.bool rt.truth,bU (rt.jQ.getD 0 0),bU (rt.jQ.getD 1 0),bU (rt.jQ.getD 2 0),bU (rt.jQ.getD 3 0),bU (rt.jQ.getD 4 0),bU (rt.jQ.getD 5 0)]):=aa rfl;generalize rt.truth=bt at tX HT;generalize rt.jQ.getD 0 0=t0 at tX HT;generalize rt.jQ.getD 1 0=t1 at tX HT;generalize rt.jQ.getD 2 0=t2 at tX HT;generalize rt.jQ.getD 3 0=t3 at tX HT;generalize rt.jQ.getD 4 0=t4 at tX HT;generalize rt.jQ.getD 5 0=t5 at tX HT;have lM:=aa fL;clear cT ey qX fL Ai Lx hcc hrt wT;go_upto_region 7 with fail;generalize (wr.alloc (.cells #[bU eU,bU yn,bV eV,bV eW,bW A3 yr c3] 47))=wd at HY tX lM ⊢;clear g0 g1' g2' g3 g4;have z1:=HY.o.cell;have z2:=(K0r.o.bZ lM.o K0r.o.lt).cell;have ep:=aa (show Below (p+3) w1 wd from sJ.o.trans (lM.o.mono (aaC fG.o sJ.o.size)));go_upto_region 8 with(go_at_call 201;refine tX.o.mono ?_;rintro e w5 ⟨rfl,ew⟩;have dO:=aa (show Below (p+3) w1 w5 from ep.o.trans (ew.mono (aaC fG.o ep.o.size)));have HW5:=aa (show Below wr wr w5 from lM.o.trans (ew.mono lM.o.size));clear ew z1 z2);have HTy:=aa (show cN (w5.alloc (.cells #[.bool bt,bU t0,bU t1,bU t2,bU t3,bU t4,bU t5] 137)) w5 137 [.bool bt,bU t0,bU t1,bU t2,bU t3,bU t4,bU t5]from heap_alloc_new w5 _);have eo:=aa (dO.o.alloc (aaC fG.o dO.o.size) (.cells #[.bool bt,bU t0,bU t1,bU t2,bU t3,bU t4,bU t5] 137));have HW6:=aa (HW5.o.alloc HW5.o.size (.cells #[.bool bt,bU t0,bU t1,bU t2,bU t3,bU t4,bU t5] 137));generalize w5.alloc (.cells #[.bool bt,bU t0,bU t1,bU t2,bU t3,bU t4,bU t5] 137)=w6 at HTy eo HW6 ⊢;have K26:=aa (K2.o.bZ eo.o af);by_cases h0:re=0;(case neg=>have L8:=aa (show q=(re,zT) by rw[Ux.o,yD.o h0];rfl);have zr:(re != 0)=true:=aS;clear h0;go_wp2_with (refine cO rfl _ _ _ rfl _ _ rfl rfl _ K26.o dQ rfl rfl ?_;intro w7 K7 uu);exact Dq (q:=q) rfl (by rw[L8.o];exact K7.o) rfl (by rw[L8.o];rfl) HP.o (cC (HB.o.trans (eo.o.mono aZ)) uu aac aZ));have HO2:=aa (Xr.o h0);subst h0;have xt:=HTy.o.cell;have Ma:=aa (show tl.length≤1000000 by have:=Has.o;omega);go_wp2_with (at_builtin;refine dD (R:=qF) (S:=fun _=>False) (xs:=tl) (ys:=[rt]) (T:=137) (t:=312) (B:=p+3) rfl (.tmp 37) (.tmp 39) 312 rfl rfl Tryz.infTyq ((HQ.o.bZ HW6.o).bZ (cS _)) rfl _ 1 1 rfl rfl ?hN ?hl ?hB rfl (n:=tl.length+1) rfl ?_);(case hN=>exact rU.jH (R:=qF) (cs:=[_,_,_,_,_,_,_]) HT.o.symm _ rfl);(case hl=>have:=Ma.o;omega);(case hB=>have:=fG.o;have:=eo.o.size;omega);intro A9 c9 w9 DX HG;have oU:=eo.o.alloc (aaC fG.o eo.o.size) (.cells #[.bool bt,bU t0,bU t1,bU t2,bU t3,bU t4,bU t5] 137);have jt:=aa (show Below (p+3) w1 w9 from oU.grown HG.o.turn (aaC fG.o oU.size) (fun j e=>(HQ.o.lt j e).1));have Xt:=aa HG.o.own;have Hd9:=aa (show ∀ t∈tl++[rt],t.jQ.length=6 from fun t ht=>by
     rcases List.mem_append.1 ht with h|h
     (·exact Hd.o t h);simp at h;subst h;exact HL6.o)
    have Has9:=aa (show(tl++[rt]).length=k+1 by rw[aao,Has.o];rfl);clear oU HG xt HQ;go_wp2;go_roundw;exact⟨k+1,tl++[rt],by omega,rfl,Has9,HO2,Hd9,Xt,jt⟩;simp[intOf];omega
   (obtain rfl:k=ar.length:=by omega);have hO:=HO.o;rw[List.take_length]at hO;have L8:=aa (show q=Ck.jM ts op nm tl by rw[Ux.o,hO];rfl);obtain⟨A9,c9,hv9,_⟩:=HQ.o.slice;subst hv9;have HNd2:=aa (Vz.o wr A9 c9 tl cG.o (((HQ.o.mono (fun b _ (h:False)=>h.elim)).sq fun _ _ _=>trivial:Sq qF wr Any A9 tl)) (by have:=Has.o;omega) Hd.o (by rw[Has.o];exact HE.o));rw[← L8.o]at HNd2;have x0:=K0r.o.cell;have x1:=K1r.o.cell;clear hO;go_wp2_with (first|(go_at_call 245;refine HNd2.o.mono ?_;rintro e w6 ⟨rfl,eM⟩;have K6:=aa (K2r.o.bZ eM K2r.o.lt);have eo:=aa (cG.o.trans (eM.mono cG.o.size));clear eM)|(refine cO rfl _ _ _ rfl _ _ rfl rfl _ K6.o dQ rfl rfl ?_;intro w5 K5 gj));exact Dq rfl K5.o rfl rfl HP.o (cC eo.o gj aac aZ)
theorem GW:∀ args w,(callFunc 199 args).run prog w= .ok (.enter 199 args) w:=enters_of func199 ah rfl
theorem Ql (N:Nat) (hN:N≤1000000):∀ (x:cw),cE x≤N→∀ (w:World) (cs:List Value),cH w Any cs x→Calls prog 199 #[.agg cs.toArray] w fun e w'=>e= .returned (.bool (pT x))∧Below w w w':=by
 induction N with
 |zero=>intro x hx;have:=dB x;omega
 |succ N ih=>
  intro x hx w cs hI
  replace ih:=ih af
  obtain⟨op,n,un,nm,A2,c2,ar,e1,e2,hS⟩:=cH.parts hI
  subst e1 e2
  have xH:cE (.mk op n un nm ar)=1+cR ar:=by unfold cE;rfl
  have hnl:=fZ ar
  have HQ:Hid (pT (.mk op n un nm ar)=((op==3)||ar.any pT)):=aa (by unfold pT;rw[lI];rfl)
  generalize pT (.mk op n un nm ar)=q at HQ ⊢
  have HC:=aa (fun W (hb:Below w w W)=>ur pT 199 #[] GW A2 c2 ar W (fun W' cs y hy ey _=>ih y bq W' cs ey) aH (hS.bZ hb))
  have HK:=aa (show cN (w.alloc (.cells #[bU op,bU n,bV un,bV nm,bW A2 ar c2] 47)) w 47 [bU op,bU n,bV un,bV nm,bW A2 ar c2]from heap_alloc_new w _)
  have HB:=aa ((aaf w w).alloc aac (.cells #[bU op,bU n,bV un,bV nm,bW A2 ar c2] 47))
  clear hI hS ih hx xH hnl
  go_enter func199,ntmps199
  go_upto_region 1 with fail
  generalize (w.alloc (.cells #[bU op,bU n,bV un,bV nm,bW A2 ar c2] 47))=w1 at HK HB ⊢
  have x1:=HK.o.cell
  by_cases ho:op=3
  case pos=>
   subst ho;have HE:=aa (show q=true by rw[HQ.o];rfl);go_wp2;go_ret;exact⟨by rw[HE.o];rfl,HB.o⟩
  case neg=>
   have z:(op==3)=false:=bD;have HE:=aa (show q=ar.any pT by rw[HQ.o,z,Bool.false_or]);rw[← HE.o]at HC;clear ho;go_wp2_with (go_at_call 145;refine(HC.o _ HB.o).mono ?_;rintro e w6 ⟨rfl,eM⟩;have eo:=aa (HB.o.trans (eM.mono HB.o.size));clear eM);go_ret;exact⟨rfl,eo.o⟩
end
section
open Go Go.RowKit Go.Maps Bg Go.Proofs Sh Kb Ck
section
theorem Qm {l:List fC} {nm:ByteArray}:(iR l nm).isSome=true↔nm∈l.map (·.1):=by
 unfold iR;rw[Option.isSome_map,List.find?_isSome];constructor
 (·rintro⟨v,hv,e⟩;exact aat.2 ⟨v,List.mem_reverse.1 hv,eq_of_beq e⟩);intro h;obtain⟨v,hv,e⟩:=aat.1 h;exact⟨v,List.mem_reverse.2 hv,by rw[e];exact beq_self_eq_true _⟩
theorem Fi (x:ByteArray):∀ (l seen:List ByteArray),um seen (l++[x])=um seen l+if x∈seen∨x∈l then 0 else 1
 |[],seen=>by simp[um]
 |y :: l,seen=>by
  rw[List.cons_append,um,um,Fi x l];have e:(x∈y :: seen∨x∈l)↔(x∈seen∨x∈y :: l):=by
   simp only[aas];constructor
   ·rintro((h|h)|h)
    (·exact .inr (.inl h))
    (·exact .inl h);exact .inr (.inr h)
   rintro(h|h|h)
   (·exact .inl (.inr h))
   (·exact .inl (.inl h));exact .inr h
  simp only[e];omega
def nw (w:World) (g:Nat) (l:List fC):Prop:=
 ∃ D:DataW Value,w.ownsMap prog 9 kR g l.length D∧Tidy D∧(∀ k:ByteArray,Maps.has D (qJ k)=(iR l k).isSome)∧(∀ (k:ByteArray) d,iR l k=some d→∀ z,D.atKey (qJ k) z= .held (GS d))∧
  (∀ k:ByteArray,iR l k=none→∀ z,D.atKey (qJ k) z=z)∧Maps.size D=um [] (l.map (·.1))
section
variable {w w':World} {g:Nat} {l:List fC}
theorem nw.made (w:World):nw (w.alloc (.map #[] 0)) w []:=
 ⟨.map [],World.ownsMap_made w _ _ _,⟨[],rfl,by simp⟩,fun k=>rfl,fun k d h=>(by cases h),fun k _ z=>rfl,rfl⟩
theorem nw.lt (h:nw w g l):g<w.heap.size:=by
 obtain⟨D,h1,_⟩:=h;exact h1.lt
theorem nw.block (h:nw w g l) (hb:w'.heap[g]? =w.heap[g]?):nw w' g l:=by
 obtain⟨D,⟨es,clock,hbk,F,hs,hD⟩,h2⟩:=h;exact⟨D,⟨es,clock,hb.trans hbk,F,hs,hD⟩,h2⟩
theorem nw.bZ {B:Nat} (h:nw w g l) (hb:Below B w w') (hg:g<B):nw w' g l:=h.block (hb.block g hg)
theorem nw.alloc (h:nw w g l) (o:Obj):nw (w.alloc o) g l:=h.bZ (cS _) h.lt
theorem nw.at_ (h:nw w g l):mJ w g l:=by
 obtain⟨D,h1,h2,h3,h4,h5,h6⟩:=h;refine⟨l.length,D,h1,h2.isMap,fun k=>⟨?_,fun v z hv=>?_,fun z hv=>?_⟩⟩
 (·rw[h3 k,Option.isSome_map])
 (·obtain⟨d,hd,rfl⟩:=aaH.1 hv;exact h4 k d hd z);exact h5 k (Option.map_eq_none_iff.1 hv) z
theorem nw.len (h:nw w g l) (ty:TypeId):(Builtin.len_ #[277] ty #[.map (some g)]).run prog w= .ok (bU (um [] (l.map (·.1)):Int)) w:=by
 obtain⟨D,h1,h2,h3,h4,h5,h6⟩:=h;rw[h1.len underlying277 ty,h6]
theorem tA {ops:Array Oper} {rest:List Oper} {o:Oper} {a:Act} {Q:Exit→Act→World→Prop} (hg:o.guard=none) (m x v:Operand) (t:TypeId) (hop:o.op=Op.mapUpdate t m x v) (ht:Tryz.prog.underlying t=some (.map 9 91)) (b:Nat) (hm:a.eval m= .map (some b)) (hown:nw w b l) (hn:l.length<maxLen) (k:ByteArray) (d:List Int) (hx:a.eval x=bV k) (hv:a.eval v=GS d) (hk:k.size≤maxLen) (hK:∀ w',Hid (nw w' b (l++[(k,d)]))→w.grownBy w' (some b)→wpList prog ops Q rest (a.put o.dst undef) w'):wpList prog ops Q (o :: rest) a w:=by
 obtain⟨D,h1,h2,h3,h4,h5,h6⟩:=hown;refine wpList_mapUpdate_own w hg m x v t hop 9 91 mj ht kR b l.length D hm h1 hn (bV k) (GS d) (qJ k) hx hv (WideMaps.keyOf_string_mk underlying9 hk) (.held (GS d)) [] rfl (fun w' hw hgr=>hK w' (aa ⟨_,by rw[aao];exact hw,h2.put (isKey k) _,fun k'=>?_,fun k' d' hc z=>?_,fun k' hc z=>?_,?_⟩) hgr)
 ·rw[vq];by_cases hkk:k'=k
  (·subst hkk;rw[has_put_same h2.isMap (isKey k') _,if_pos (Eq.refl k'),Option.isSome_some]);rw[has_put_other (nP hkk) _,h3 k',if_neg hkk]
 ·rw[vq]at hc;by_cases hkk:k'=k
  (·subst hkk;rw[if_pos (Eq.refl k')]at hc;have hc2:=Option.some.inj hc;rw[← hc2];exact atKey_put_same h2.isMap (isKey k') _ _);rw[if_neg hkk]at hc;rw[atKey_put_other (nP hkk) _ _];exact h4 k' d' hc z
 ·rw[vq]at hc;by_cases hkk:k'=k
  (·subst hkk;rw[if_pos (Eq.refl k')]at hc;exact absurd hc (Option.some_ne_none _));rw[if_neg hkk]at hc;rw[atKey_put_other (nP hkk) _ _];exact h5 k' hc z
 rw[size_put h2 _,h3 k,h6,List.map_append,List.map_singleton,Fi];have e:=Qm (l:=l) (nm:=k);by_cases hm:k∈l.map (·.1)
 (·rw[e.2 hm,if_pos rfl,if_pos (.inr hm)];rfl);have:(iR l k).isSome=false:=by
  cases h:(iR l k).isSome
  (·rfl);exact absurd (e.1 h) hm
 rw[this,if_neg ai,if_neg (by simp only[List.not_mem_nil,false_or];exact hm)]
end
end
end
open Go Go.RowKit Bg Go.Proofs Sh Kb Ck
section
def nL:Rel fC:=lX 7 (fun v=> bV v.1 :: ig v.2) (fun _=>rfl) (fun x v hv=>by simp[ig]at hv;rcases hv with rfl|rfl|rfl|rfl|rfl|rfl|rfl<;>rfl)
def RdP (vs:List fC) (ts:List fC) (ok:Bool) (w:World) (e:Ending) (w':World):Prop:=
 ∃ m1 m2:Option Nat,e= .returned (.tuple #[.agg #[.map m1,.map m2],.bool ok])∧Below w w w'∧(ok=true→∃ g1 g2,m1=some g1∧m2=some g2∧mJ w' g1 vs∧mJ w' g2 ts)
theorem yV:(Tryz.prog.info? 279).map (·.size)=some 2:=by kernel_rfl
theorem tB {fn:Func} (hf:fn.results=#[.cell 4 279,.tmp 5]) {P:Ending→World→Prop} {vs ts:List fC} {ok:Bool} {w w5:World} {tm:Array Value} {g:Nat} {m1 m2:Option Nat} (K5:cN w5 g 279 [.map m1,.map m2]) (hp:tm.getD 4 undef= .pointer (bY g 0)) (hv:tm.getD 5 undef= .bool ok)
 (HP:∀ e w',RdP vs ts ok w e w'→P e w') (hb:Below w w w5) (hq:ok=true→∃ g1 g2,m1=some g1∧m2=some g2∧mJ w5 g1 vs∧mJ w5 g2 ts):bodyPost prog fn P .ret ⟨tm,[]⟩ w5:=
 bodyPost_ret (cM hf _ _ _ 279 [.map m1,.map m2] _ _ hp hv K5 underlying279 rfl yV) rfl (HP _ _ ⟨m1,m2,rfl,hb,hq⟩)
theorem MS {ts:List dX} {k:Nat} (h:k<ts.length):jk (ts.take (k+1))=jk (ts.take k)++[(ts[k].name,iw ts[k].unit)]:=by
 unfold jk;rw[aaz h,List.map_append];rfl
theorem JZ {α:Type} {p:α→Bool} {l:List α} {k:Nat} (h:k<l.length) (ha:(l.take k).all p=true) (hp:p l[k]=true):(l.take (k+1)).all p=true:=by
 rw[aaz h,List.all_append,ha];simp[hp]
theorem Oq {α:Type} {p:α→Bool} {l:List α} {k:Nat} (h:k<l.length) (hp:p l[k]=false):l.all p=false:=by
 rw[Bool.eq_false_iff];intro ha;have:=List.all_eq_true.1 ha _ (aan h);rw[hp]at this;cases this
structure rC (w:World) (r p:Nat) (l1 l2:List fC) (wr:World):Prop where
 k0:cN wr r 279 [.map none,.map none]
 kn:cN wr (p+1+1) 279 [.map (some p),.map (some (p+1))]
 d1:nw wr p l1
 d2:nw wr (p+1) l2
 hb:Below w w wr
 le:p+3≤wr.heap.size
 rp:r<p
 rw:r=w.heap.size
section
variable {w wr w':World} {r p:Nat} {l1 l2 l':List fC}
theorem rC.bZ (h:rC w r p l1 l2 wr) (hb:Below wr wr w'):rC w r p l1 l2 w':=
 ⟨h.k0.bZ hb h.k0.lt,h.kn.bZ hb h.kn.lt,h.d1.bZ hb h.d1.lt,h.d2.bZ hb h.d2.lt,h.hb.trans (hb.mono h.hb.size),aaC h.le hb.size,h.rp,h.rw⟩
theorem rC.alloc (h:rC w r p l1 l2 wr) (o:Obj):rC w r p l1 l2 (wr.alloc o):=h.bZ (cS _)
theorem rC.put1 (h:rC w r p l1 l2 wr) (hg:wr.grownBy w' (some p)) (hd:nw w' p l'):rC w r p l' l2 w':=
 ⟨(hg.block r h.k0.lt (fun e=>by injection e with e;have:=h.rp;omega)).trans h.k0,(hg.block _ h.kn.lt (fun e=>by injection e with e;omega)).trans h.kn,hd,h.d2.block (hg.block _ h.d2.lt (fun e=>by injection e with e;omega)),h.hb.grown hg h.hb.size (fun j e=>by cases e;have:=h.rp;have:=h.rw;omega),aaC h.le hg.size,h.rp,h.rw⟩
theorem rC.put2 (h:rC w r p l1 l2 wr) (hg:wr.grownBy w' (some (p+1))) (hd:nw w' (p+1) l'):rC w r p l1 l' w':=
 ⟨(hg.block r h.k0.lt (fun e=>by injection e with e;have:=h.rp;omega)).trans h.k0,(hg.block _ h.kn.lt (fun e=>by injection e with e;omega)).trans h.kn,h.d1.block (hg.block _ h.d1.lt (fun e=>by injection e with e;omega)),hd,h.hb.grown hg h.hb.size (fun j e=>by cases e;have:=h.rp;have:=h.rw;omega),aaC h.le hg.size,h.rp,h.rw⟩
end
theorem AV {w:World} {ops:Array Oper} {rest:List Oper} {o:Oper} {a:Act} {Q:Exit→Act→World→Prop} (hg:o.guard=none) (m x:Operand) (t:TypeId) (hop:o.op=Op.lookup t m x true) (ht:Tryz.prog.underlying t=some (.map 9 91)) (b:Nat) {l:List fC} (h6:Ol l) (hm:a.eval m= .map (some b)) (hown:nw w b l) (k:ByteArray) (hx:a.eval x=bV k) (hk:k.size≤maxLen) (hK:∀ x0 x1 x2 x3 x4 x5 is,Hid (is=(iR l k).isSome)→wpList prog ops Q rest (a.put o.dst (.tuple #[.agg #[bU x0,bU x1,bU x2,bU x3,bU x4,bU x5],.bool is])) w):wpList prog ops Q (o :: rest) a w:=by
 obtain⟨n,hM⟩:=hown.at_;cases hl:iR l k with
 |none=>exact jm _ hg m x t hop 91 ht (qE _) b n _ hm hM k hx hk (by rw[hl];rfl) (hK 0 0 0 0 0 0 false (aa (by rw[hl];rfl)))
 |some d=>
  obtain⟨d0,d1,d2,d3,d4,d5,rfl⟩:=six (h6 k d hl);exact iF _ hg m x t hop 91 ht (qE _) b n _ hm hM k hx hk _ (by rw[hl];rfl) (hK d0 d1 d2 d3 d4 d5 true (aa (by rw[hl];rfl)))
theorem Dr {l:List fC} (h:∀ v∈l,v.2.length=6):Ol l:=fun nm d hd=>by
 unfold iR at hd;obtain⟨v,hv,rfl⟩:=aaH.1 hd;exact h v (List.mem_reverse.1 (List.mem_of_find?_eq_some hv))
def Uy (t:dX):Prop:=t.name.size≤maxLen∧t.unit.size≤maxLen∧t.rows.length≤maxLen
theorem Uz (VA TA:Option Addr) (vc tc:Nat) (vs:List fC) (ts:List dX) (w:World) (hs:Sq nL w Any VA vs) (ht:Sq mz w Any TA ts) (hvl:vs.length≤1000000) (htl:ts.length≤1000000) (UA:∀ v∈vs,v.2.length=6∧v.1.size≤maxLen) (hts:∀ t∈ts,Uy t):Calls prog 200 #[bW VA vs vc,bW TA ts tc] w (RdP vs (jk ts) (wZ vs ts) w):=by
 generalize hP:RdP vs (jk ts) (wZ vs ts) w=P;have HP:=aa (show ∀ e w',RdP vs (jk ts) (wZ vs ts) w e w'→P e w' from fun e w' h=>hP▸h);clear hP;have HR:Hid (wZ vs ts=(vs.all MD&&ts.all (PZ vs)&&um [] (vs.map (·.1))==vs.length&&um [] (ts.map (·.name))==ts.length)):=aa rfl;generalize wZ vs ts=q at HP HR;have HS:=aa hs;have HT:=aa ht;have HV6:=aa UA;have HTs:=aa hts;obtain⟨n,hn⟩:∃ n,n=vs.length:=⟨_,rfl⟩;have HN:=aa hn;rw[← hn]at hvl ⊢;obtain⟨m,hm⟩:∃ m,m=ts.length:=⟨_,rfl⟩;have HM:=aa hm;rw[← hm]at htl ⊢;clear hs ht UA hts hn hm;go_enter func200,ntmps200;go_upto_region 1 with fail;have K0:=aa (show cN (w.alloc (.cells #[.map none,.map none] 279)) w 279 [.map none,.map none]from heap_alloc_new w _);have gY:=aa ((aaf w w).alloc aac (.cells #[.map none,.map none] 279));have Oa:=aa (aaI w (.cells #[.map none,.map none] 279));generalize w.alloc (.cells #[.map none,.map none] 279)=w0 at K0 gY Oa ⊢;have hmm:=@run_makeMap prog;go_upto_region 2 with fail;have HA:=aa (show rC w w w0 [] [] (((w0.alloc (.map #[] 0)).alloc (.map #[] 0)).alloc (.cells #[.map (some w0.heap.size),.map (some (w0+1))] 279))from
  ⟨((K0.o.alloc _).alloc _).alloc _,by have h:=heap_alloc_new ((w0.alloc (.map #[] 0)).alloc (.map #[] 0)) (.cells #[.map (some w0.heap.size),.map (some (w0+1))] 279);rw[aaI,aaI]at h;exact h,
   ((nw.made w0).alloc _).alloc _,by have h:=(nw.made (w0.alloc (.map #[] 0))).alloc (.cells #[.map (some w0.heap.size),.map (some (w0+1))] 279);rw[aaI]at h;exact h,
   ((gY.o.alloc gY.o.size _).alloc (by rw[aaI];have:=gY.o.size;omega) _).alloc (by rw[aaI,aaI];have:=gY.o.size;omega) _,by rw[aaI,aaI,aaI];omega,by have:=Oa.o;omega,rfl⟩)
 generalize (((w0.alloc (.map #[] 0)).alloc (.map #[] 0)).alloc (.cells #[.map (some w0.heap.size),.map (some (w0+1))] 279))=w1 at HA ⊢;generalize w0.heap.size=p at HA ⊢;clear K0 gY Oa hmm;obtain⟨r,hr⟩:∃ r,r=w.heap.size:=⟨_,rfl⟩;rw[← hr]at HA ⊢;clear hr;go_wp2;go_loopw [20] (fun v wr=>∃ k:Nat,k≤n∧v=bU (k:Int)∧Hid ((vs.take k).all MD=true)∧Hid (rC w r p (vs.take k) [] wr)) (fun v _=>n - (intOf v).toNat);(case atStart=>exact⟨0,aaG _,rfl,aa ai,HA⟩);clear HA;obtain⟨k,hk,rfl,HAll,HA⟩:=hrel;by_cases hlt:k<n;case pos=>
  (have nK:k<vs.length:=by have:=HN.o;omega);obtain⟨bl,o,cs,hA,_,hbl,hcs,cT⟩:=(HS.o.bZ HA.o.hb).get nK;subst hA;have UA:=HV6.o _ (aan nK);have Ot:=aa (fun(h:MD vs[k]=true)=>JZ nK HAll.o h);have Xu:=aa (fun(h:MD vs[k]=false)=>Oq nK h);have qV:=aa (show vs.take (k+1)=vs.take k++[vs[k]]from aaz nK);generalize vs[k]=y at hcs UA Ot Xu qV;obtain⟨nm,d⟩:=y;obtain⟨d0,d1,d2,d3,d4,d5,rfl⟩:=six UA.1;have hnm:nm.size≤maxLen:=UA.2;have hcs:cs=[bV nm,bU d0,bU d1,bU d2,bU d3,bU d4,bU d5]:=hcs;subst hcs;have g0:b_ wr bl (o+k*7) (bV nm):=cT 0 _ rfl;have g1:b_ wr bl (o+k*7+1) (bU d0):=cT 1 _ rfl;have g2:b_ wr bl (o+k*7+2) (bU d1):=cT 2 _ rfl;have g3:b_ wr bl (o+k*7+3) (bU d2):=cT 3 _ rfl;have g4:b_ wr bl (o+k*7+4) (bU d3):=cT 4 _ rfl;have g5:b_ wr bl (o+k*7+5) (bU d4):=cT 5 _ rfl;have g6:b_ wr bl (o+k*7+6) (bU d5):=cT 6 _ rfl;clear cT UA;go_upto_region 5 with fail;have rS:=aa (HA.o.alloc (.cells #[bV nm,bU d0,bU d1,bU d2,bU d3,bU d4,bU d5] 158));have KV:=aa (show cN (wr.alloc (.cells #[bV nm,bU d0,bU d1,bU d2,bU d3,bU d4,bU d5] 158)) wr 158 [bV nm,bU d0,bU d1,bU d2,bU d3,bU d4,bU d5]from heap_alloc_new wr _);generalize wr.alloc (.cells #[bV nm,bU d0,bU d1,bU d2,bU d3,bU d4,bU d5] 158)=wx at rS KV ⊢;clear g0 g1 g2 g3 g4 g5 g6 hbl;have xv:=KV.o.cell;have HLx:=aa (fun W=>rZ nm W hnm);have KG:=aa (fun W=>r7 nm W);have Bo:=aa (fun W=>mF d0 d1 d2 d3 d4 d5 W);have KL:Hid (MD (nm,[d0,d1,d2,d3,d4,d5])=(lB nm.data.toList&& !rG nm&&dL [d0,d1,d2,d3,d4,d5])):=aa rfl;generalize lB nm.data.toList=bn at HLx KL;generalize rG nm=bw at KG KL;generalize dL [d0,d1,d2,d3,d4,d5]=bd at Bo KL;have hcs3:(bn=false∨bw=true∨bd=false)∨(bn=true∧bw=false∧bd=true):=(by cases bn<;>cases bw<;>cases bd<;>simp);rcases hcs3 with hf|⟨rfl,rfl,rfl⟩;case inl=>
   have HE:=aa (show q=false by
    rw[HR.o,Xu.o (by rw[KL.o];rcases hf with h|h|h<;>simp[h])];rfl)
   clear Ot Xu KL
   cases bn
   case' true=>
    cases bw
    case' false=>
     have hbd:bd=false:=by simpa using hf
     subst hbd
   all_goals (
    clear hf
    go_wp2_with (first|(go_at_call 117;refine(HLx.o _).mono ?_;rintro e w' ⟨rfl,rfl⟩)|(go_at_call 118;refine(KG.o _).mono ?_;rintro e w' ⟨rfl,rfl⟩)|(go_at_call 140;refine(Bo.o _).mono ?_;rintro e w6 ⟨rfl,eM⟩;replace rS:=aa (rS.o.bZ eM);clear eM)|(refine cO rfl _ _ _ rfl _ _ rfl rfl _ rS.o.k0 yV rfl rfl ?_;intro w7 K7 uu))
    exact tB (vs:=vs) (ts:=jk ts) (ok:=q) rfl K7.o rfl aV HP.o (cC rS.o.hb uu aac (by have:=rS.o.rw;omega)) (fun h=>by rw[HE.o]at h;cases h))
  have zD:=aa (Ot.o (by rw[KL.o];rfl));clear Ot Xu KL;have xn:=rS.o.kn.cell;have HKl:=aa (show(vs.take k).length<maxLen by rw[aaq];unfold maxLen;omega);go_wp2_with (first|(go_at_call 117;refine(HLx.o _).mono ?_;rintro e w' ⟨rfl,rfl⟩)|(go_at_call 118;refine(KG.o _).mono ?_;rintro e w' ⟨rfl,rfl⟩)|(go_at_call 140;refine(Bo.o _).mono ?_;rintro e w6 ⟨rfl,eM⟩;replace rS:=aa (rS.o.bZ eM);have xv6:=(KV.o.bZ eM KV.o.lt).cell;have xn6:=rS.o.kn.cell;clear eM xv xn)|(refine tA rfl _ _ _ _ rfl underlying277 p rfl rS.o.d1 HKl.o nm [d0,d1,d2,d3,d4,d5] rfl rfl hnm ?_;intro w8 HD8 Vs));have LB:=aa (show rC w r p (vs.take (k+1)) [] w8 by rw[qV.o];exact rS.o.put1 Vs HD8.o);clear HD8 Vs xv6 xn6;go_wp2;go_roundw;exact⟨k+1,by omega,rfl,zD,LB⟩;simp[intOf];omega
 (obtain rfl:k=n:=by omega);have hfull:vs.take k=vs:=aax aC;rw[hfull]at HA HAll;have HSix:=aa (Dr fun v hv=>(HV6.o v hv).1);clear hfull hlt hk;go_wp2_with fail;have ZG:=aa (show rC w r p vs (jk (ts.take 0)) wr from HA.o);clear HA;go_loopw [49] (fun v wi=>∃ j:Nat,j≤m∧v=bU (j:Int)∧Hid ((ts.take j).all (PZ vs)=true)∧Hid (rC w r p vs (jk (ts.take j)) wi)) (fun v _=>m - (intOf v).toNat);(case atStart=>exact⟨0,aaG _,rfl,aa ai,ZG⟩);clear ZG;obtain⟨j,hj,rfl,HAj,HA⟩:=hrel;by_cases hlt:j<m;case pos=>
  (have hjl:j<ts.length:=by have:=HM.o;omega);obtain⟨bl,o,cs,hA,_,hbl,⟨Ar,cr,hcs,hrows⟩,cT⟩:=(HT.o.bZ HA.o.hb).get hjl;subst hA hcs;have hsm:=HTs.o _ (aan hjl);have Ot:=aa (fun(h:PZ vs ts[j]=true)=>JZ hjl HAj.o h);have Xu:=aa (fun(h:PZ vs ts[j]=false)=>Oq hjl h);have qV:=aa (MS hjl);generalize ts[j]=t at hsm Ot Xu qV hrows cT;obtain⟨nm,un,rows⟩:=t;obtain⟨hnm,hun,hrl⟩:=hsm;dsimp only at hnm hun hrl hrows cT qV;have g0:b_ wr bl (o+j*3) (bV nm):=cT 0 _ rfl;have g1:b_ wr bl (o+j*3+1) (bV un):=cT 1 _ rfl;have g2:b_ wr bl (o+j*3+2) (bW Ar rows cr):=cT 2 _ rfl;have HRows:=aa hrows;clear cT hrows;go_upto_region 12 with fail;have rS:=aa (HA.o.alloc (.cells #[bV nm,bV un,bW Ar rows cr] 65));have KT:=aa (show cN (wr.alloc (.cells #[bV nm,bV un,bW Ar rows cr] 65)) wr 65 [bV nm,bV un,bW Ar rows cr]from heap_alloc_new wr _);have MT:=aa (show Below wr wr (wr.alloc (.cells #[bV nm,bV un,bW Ar rows cr] 65))from cS _);generalize wr.alloc (.cells #[bV nm,bV un,bW Ar rows cr] 65)=wx at rS KT MT ⊢;clear g0 g1 g2 hbl;have xt:=KT.o.cell;have qD:=aa (fun W=>nV un W hun);go_upto_region 13 with(go_at_call 84;refine(qD.o _).mono ?_;rintro e w6 ⟨d0,d1,d2,d3,d4,d5,s',A,nn,c,tt,B,mq,cc,rfl,hd,_,eM⟩;have HD:=aa (show iw un=[d0,d1,d2,d3,d4,d5]from hd);have X9:=aa (rS.o.bZ eM);have KT6:=aa (KT.o.bZ eM KT.o.lt);have eo:=aa (MT.o.trans (eM.mono MT.o.size));clear eM hd xt);have Wl:=aa (X9.o.alloc (.cells #[bU d0,bU d1,bU d2,bU d3,bU d4,bU d5,bU s',bW A nn c,bU tt,bW B mq cc] 165));have KT7:=aa (KT6.o.alloc (.cells #[bU d0,bU d1,bU d2,bU d3,bU d4,bU d5,bU s',bW A nn c,bU tt,bW B mq cc] 165));have j9:=aa (eo.o.alloc eo.o.size (.cells #[bU d0,bU d1,bU d2,bU d3,bU d4,bU d5,bU s',bW A nn c,bU tt,bW B mq cc] 165));have KU7:=aa (show cN (w6.alloc (.cells #[bU d0,bU d1,bU d2,bU d3,bU d4,bU d5,bU s',bW A nn c,bU tt,bW B mq cc] 165)) w6 165 [bU d0,bU d1,bU d2,bU d3,bU d4,bU d5,bU s',bW A nn c,bU tt,bW B mq cc]from heap_alloc_new w6 _);generalize w6.alloc (.cells #[bU d0,bU d1,bU d2,bU d3,bU d4,bU d5,bU s',bW A nn c,bU tt,bW B mq cc] 165)=w7 at Wl KT7 j9 KU7 ⊢;clear X9 KT6 eo;have xt:=KT7.o.cell;have xn:=Wl.o.kn.cell;go_upto_region 14 with(refine AV rfl _ _ _ rfl underlying277 p HSix.o rfl Wl.o.d1 nm rfl hnm ?_;intro x0 x1 x2 x3 x4 x5 is HIs);have LL:=aa (Wl.o.alloc (.cells #[bU x0,bU x1,bU x2,bU x3,bU x4,bU x5] 91));have KT8:=aa (KT7.o.alloc (.cells #[bU x0,bU x1,bU x2,bU x3,bU x4,bU x5] 91));have mN:=aa (j9.o.alloc j9.o.size (.cells #[bU x0,bU x1,bU x2,bU x3,bU x4,bU x5] 91));have KU8:=aa (KU7.o.alloc (.cells #[bU x0,bU x1,bU x2,bU x3,bU x4,bU x5] 91));generalize w7.alloc (.cells #[bU x0,bU x1,bU x2,bU x3,bU x4,bU x5] 91)=w8 at LL KT8 mN KU8 ⊢;clear xt xn Wl KT7 j9 KU7;have xt:=KT8.o.cell;have HTb:=aa (zZ nm un Ar cr rows w8 hnm hun hrl (HRows.o.bZ mN.o));have KG:=aa (fun W=>r7 nm W);have KL:Hid (PZ vs ⟨nm,un,rows⟩=((jK un).1==0&&(iR vs nm).isNone&&gD ⟨nm,un,rows⟩&& !rG nm)):=aa rfl;have hno:(iR vs nm).isNone= !is:=(by rw[HIs.o];cases iR vs nm<;>rfl);rw[hno]at KL;clear hno HIs;generalize (jK un).1=re at KL ⊢;generalize gD ⟨nm,un,rows⟩=bt at HTb KL;generalize rG nm=bw at KG KL;have hcs3:(is=true∨¬re=0∨bt=false∨bw=true)∨(is=false∧re=0∧bt=true∧bw=false):=by
   by_cases h:re=0
   (·cases is<;>cases bt<;>cases bw<;>simp[h]);exact .inl (.inr (.inl h))
  rcases hcs3 with hf|⟨rfl,rfl,rfl,rfl⟩;case inl=>
   have HE:=aa (show q=false by
    have hnt:=Xu.o (by rw[KL.o];rcases hf with h|h|h|h<;>simp[h]);rw[HR.o,hnt];cases vs.all MD<;>rfl)
   clear Ot Xu KL qV
   cases is
   case' false=>
    by_cases wT:re=0
    case' pos=>
     subst wT
     cases bt
     case' true=>
      have fL:bw=true:=by simpa using hf
      subst fL
    case' neg=>
     have zr:(re != 0)=true:=by simpa using wT
     clear wT
   all_goals (
    clear hf
    go_wp2_with (first|(go_at_call 121;refine HTb.o.mono ?_;rintro e w9 ⟨rfl,lW⟩;replace LL:=aa (LL.o.bZ lW);have xt9:=(KT8.o.bZ lW KT8.o.lt).cell;clear lW xt)|(go_at_call 118;refine(KG.o _).mono ?_;rintro e w' ⟨rfl,rfl⟩)|(refine cO rfl _ _ _ rfl _ _ rfl rfl _ LL.o.k0 yV rfl rfl ?_;intro wk K7 uu))
    exact tB (vs:=vs) (ts:=jk ts) (ok:=q) rfl K7.o rfl aV HP.o (cC LL.o.hb uu aac (by have:=LL.o.rw;omega)) (fun h=>by rw[HE.o]at h;cases h))
  have Zt:=aa (Ot.o (by rw[KL.o];rfl));have HKl:=aa (show(jk (ts.take j)).length<maxLen by unfold jk;rw[List.length_map,aaq];unfold maxLen;omega);clear Ot Xu KL;go_wp2_with (first|(go_at_call 121;refine HTb.o.mono ?_;rintro e w9 ⟨rfl,lW⟩;replace LL:=aa (LL.o.bZ lW);have xt9:=(KT8.o.bZ lW KT8.o.lt).cell;have xu9:=(KU8.o.bZ lW KU8.o.lt).cell;have xn9:=LL.o.kn.cell;clear lW xt)|(go_at_call 118;refine(KG.o _).mono ?_;rintro e w' ⟨rfl,rfl⟩)|(refine tA rfl _ _ _ _ rfl underlying277 (p+1) rfl LL.o.d2 HKl.o nm [d0,d1,d2,d3,d4,d5] rfl rfl hnm ?_;intro wk HD8 Vs));have LB:=aa (show rC w r p vs (jk (ts.take (j+1))) wk by rw[qV.o];show rC w r p vs (jk (ts.take j)++[(nm,iw un)]) wk;rw[HD.o];exact LL.o.put2 Vs HD8.o);clear HD8 Vs xt9 xu9 xn9;go_wp2;go_roundw;exact⟨j+1,by omega,rfl,Zt,LB⟩;simp[intOf];omega
 (obtain rfl:j=m:=by omega);have hfull:ts.take j=ts:=aax (by have:=HM.o;omega);rw[hfull]at HA HAj;have hl1:=HA.o.d1.len;have hl2:=HA.o.d2.len;have hnm2:(jk ts).map (·.1)=ts.map (·.name):=(by unfold jk;rw[List.map_map];rfl);rw[hnm2]at hl2;have HQ:=aa (show q=(um [] (vs.map (·.1))==k&&um [] (ts.map (·.name))==j) by rw[HR.o,HAll.o,HAj.o, ← HN.o, ← HM.o];rfl);generalize um [] (vs.map (·.1))=c1 at hl1 HQ;generalize um [] (ts.map (·.name))=c2 at hl2 HQ;have xn:=HA.o.kn.cell;clear hfull hlt hj hnm2 HR;by_cases e1:c1=k;(case neg=>have HE:=aa (show q=false by rw[HQ.o];simp[e1]);have z1:((c1:Int)==(k:Int))=false:=aU;clear e1 HQ hl2;go_wp2_with (refine cO rfl _ _ _ rfl _ _ rfl rfl _ HA.o.k0 yV rfl rfl ?_;intro wk K7 uu);exact tB (vs:=vs) (ts:=jk ts) (ok:=q) rfl K7.o rfl aV HP.o (cC HA.o.hb uu aac (by have:=HA.o.rw;omega)) (fun h=>by rw[HE.o]at h;cases h));by_cases e2:c2=j;(case neg=>have HE:=aa (show q=false by rw[HQ.o];simp[e2]);have z1:((c1:Int)==(k:Int))=true:=(by rw[e1];exact beq_self_eq_true _);have z2:((c2:Int)==(j:Int))=false:=aU;clear e1 e2 HQ;go_wp2_with (refine cO rfl _ _ _ rfl _ _ rfl rfl _ HA.o.k0 yV rfl rfl ?_;intro wk K7 uu);exact tB (vs:=vs) (ts:=jk ts) (ok:=q) rfl K7.o rfl aV HP.o (cC HA.o.hb uu aac (by have:=HA.o.rw;omega)) (fun h=>by rw[HE.o]at h;cases h));have HE:=aa (show q=true by rw[HQ.o];simp[e1,e2]);have z1:((c1:Int)==(k:Int))=true:=(by rw[e1];exact beq_self_eq_true _);have z2:((c2:Int)==(j:Int))=true:=(by rw[e2];exact beq_self_eq_true _);clear e1 e2 HQ;go_wp2_with (refine cO rfl _ _ _ rfl _ _ rfl rfl _ HA.o.k0 yV rfl rfl ?_;intro wk K7 uu);have hrp:=HA.o.rp;exact tB (vs:=vs) (ts:=jk ts) (ok:=q) rfl K7.o rfl aV HP.o (cC HA.o.hb uu aac (by have:=HA.o.rw;omega)) (fun _=>⟨p,p+1,rfl,rfl,(HA.o.d1.block (uu.block p HA.o.d1.lt (fun e=>by injection e with e;omega))).at_,(HA.o.d2.block (uu.block (p+1) HA.o.d2.lt (fun e=>by injection e with e;omega))).at_⟩)
end
theorem inf_Of (x:cw) (cs:List Value) (hx:cE x≤1000000) (hsm:lV x) (VA TA:Option Addr) (vc tc:Nat) (vs:List fC) (ts:List dX) (w:World) (hI:cH w Any cs x) (hs:Sq nL w Any VA vs) (ht:Sq mz w Any TA ts) (hvl:vs.length≤1000000) (htl:ts.length≤1000000) (UA:∀ v∈vs,v.2.length=6∧v.1.size≤maxLen) (hts:∀ t∈ts,Uy t):Calls prog 135 #[.agg cs.toArray,bW VA vs vc,bW TA ts tc] w (Am (jh vs ts x) w):=by
 generalize hP:Am (jh vs ts x) w=P;have HP:=aa (show ∀ e w',Am (jh vs ts x) w e w'→P e w' from fun e w' h=>hP▸h);clear hP;have HR:Hid (jh vs ts x=(if eZ x=false∨pT x=true then(2,zT)else if wZ vs ts then xh vs (jk ts) x else(1,zT):Int×nN)):=aa rfl;have fD:=aa (fun W (h:Below w w W)=>p_ x cs W (dh.keep hI (cB.cA h)) hsm);have VE:=aa (fun W (h:Below w w W)=>Ql (cE x) hx x aac W cs (dh.keep hI (cB.cA h)));have qD:=aa (fun W (h:Below w w W)=>Uz VA TA vc tc vs ts W (hs.bZ h) (ht.bZ h) hvl htl UA hts);have h6t:Ol (jk ts):=Dr fun v hv=>by
  unfold jk at hv;obtain⟨t,_,rfl⟩:=aat.1 hv;exact j8 t.unit
 have Sz:=aa (fun g1 g2 W (hr:eZ x=true) (h:Below w w W) h1 h2=>inf_of g1 g2 vs (jk ts) (Dr fun v hv=>(UA v hv).1) h6t (cE x) hx x aac (by unfold eZ at hr;simp at hr;exact hr.2) hsm W cs h1 h2 (dh.keep hI (cB.cA h)));obtain⟨op,n,un,nm,A2,c2,ar,e1,e2,hS⟩:=cH.parts hI;rw[e2]at fD VE Sz ⊢;clear hI hS e2 hsm hx h6t hs ht UA hts;generalize vs.length=lv at qD hvl ⊢;generalize ts.length=lt at qD htl ⊢;generalize ar.length=la at fD VE Sz ⊢;generalize jh vs ts x=q at HP HR;go_enter func135,ntmps135;go_upto_region 1 with fail;obtain⟨w1,hw1,K0,K1,HB⟩:=De w [.int .i64 op,.int .i64 n,bV un,bV nm,bW A2 la c2] [.bool false,.int .i64 0,.int .i64 0,.int .i64 0,.int .i64 0,.int .i64 0,.int .i64 0] 47 137;rw[hw1];clear hw1;have x0:=K0.o.cell;cases hr:eZ x;(case false=>have HE:=aa (show q=(2,zT) by rw[HR.o,if_pos (.inl hr)]);rw[hr]at fD;clear hr HR Sz qD;go_wp2_with (first|(go_at_call 86;refine(fD.o _ HB.o).mono ?_;rintro e w6 ⟨rfl,eM⟩;have K6:=aa (K1.o.bZ eM K1.o.lt);have eo:=aa (HB.o.trans (eM.mono HB.o.size));clear eM)|(refine cO rfl _ _ _ rfl _ _ rfl rfl _ K6.o dQ rfl rfl ?_;intro w5 K5 gj));exact lU (q:=q) rfl bP rfl aV HP.o (cC eo.o gj aac af));have Ux:=aa (fun g1 g2 W h h1 h2=>Sz.o g1 g2 W hr h h1 h2);rw[hr]at fD;clear Sz;cases hc:pT x;(case true=>have HE:=aa (show q=(2,zT) by rw[HR.o,if_pos (.inr hc)]);rw[hc]at VE;clear hc hr HR Ux qD;go_wp2_with (first|(go_at_call 86;refine(fD.o _ HB.o).mono ?_;rintro e w6 ⟨rfl,eM⟩;have K6:=aa (K1.o.bZ eM K1.o.lt);have x6:=(K0.o.bZ eM K0.o.lt).cell;have eo:=aa (HB.o.trans (eM.mono HB.o.size));clear eM x0)|(go_at_call 199;refine(VE.o _ eo.o).mono ?_;rintro e w7 ⟨rfl,nA⟩;have K7:=aa (K6.o.bZ nA K6.o.lt);have j9:=aa (eo.o.trans (nA.mono eo.o.size));clear nA x6)|(refine cO rfl _ _ _ rfl _ _ rfl rfl _ K7.o dQ rfl rfl ?_;intro w5 K5 gj));exact lU (q:=q) rfl bP rfl aV HP.o (cC j9.o gj aac af));case false=>
  replace HR:=aa (show q=(if wZ vs ts then xh vs (jk ts) x else(1,zT):Int×nN) by rw[HR.o,if_neg (by rw[hr,hc];simp)])
  rw[hc]at VE
  clear hc hr
  go_upto_region 3 with(first|(go_at_call 86;refine(fD.o _ HB.o).mono ?_;rintro e w6 ⟨rfl,eM⟩;have K6:=aa (K1.o.bZ eM K1.o.lt);have K06:=aa (K0.o.bZ eM K0.o.lt);have x6:=K06.o.cell;have eo:=aa (HB.o.trans (eM.mono HB.o.size));clear eM x0)|(go_at_call 199;refine(VE.o _ eo.o).mono ?_;rintro e w7 ⟨rfl,nA⟩;have K7:=aa (K6.o.bZ nA K6.o.lt);have K07:=aa (K06.o.bZ nA K06.o.lt);have j9:=aa (eo.o.trans (nA.mono eo.o.size));clear nA x6))
  clear K6 K06 eo fD VE K0 K1 HB
  go_upto_region 4 with(go_at_call 200;refine(qD.o _ j9.o).mono ?_;rintro e w8 ⟨m1,m2,rfl,oU,hq8⟩)
  have HQ8:=aa hq8
  have K8:=aa ((K7.o.bZ oU K7.o.lt).alloc (.cells #[.map m1,.map m2] 279))
  have K08:=aa ((K07.o.bZ oU K07.o.lt).alloc (.cells #[.map m1,.map m2] 279))
  have KN8:=aa (show cN (w8.alloc (.cells #[.map m1,.map m2] 279)) w8 279 [.map m1,.map m2]from heap_alloc_new w8 _)
  have mN:=aa (j9.o.trans (oU.mono j9.o.size))
  have jt:=aa (mN.o.alloc mN.o.size (.cells #[.map m1,.map m2] 279))
  have Ma:=aa ((aaf w8 w8).alloc aac (.cells #[.map m1,.map m2] 279))
  generalize w8.alloc (.cells #[.map m1,.map m2] 279)=w9 at K8 K08 KN8 jt Ma ⊢
  clear hq8 oU K7 K07 j9 qD
  have x8:=K08.o.cell
  have xn:=KN8.o.cell
  cases hrd:wZ vs ts
  case false=>
   have HE:=aa (show q=(1,zT) by rw[HR.o,hrd];rfl);clear hrd;go_wp2_with (refine cO rfl _ _ _ rfl _ _ rfl rfl _ K8.o dQ rfl rfl ?_;intro w5 K5 gj);exact lU (q:=q) rfl bP rfl aV HP.o (cC jt.o gj aac af)
  case true=>
   have HE:=aa (show q=xh vs (jk ts) x by rw[HR.o,hrd];rfl);obtain⟨g1,g2,rfl,rfl,hd1,hd2⟩:=HQ8.o hrd;have HC:=aa (Ux.o g1 g2 w9 jt.o (hd1.bZ Ma.o) (hd2.bZ Ma.o));rw[← HE.o]at HC;clear hrd hd1 hd2;go_wp2_with (first|(go_at_call 201;refine HC.o.mono ?_;rintro e w6 ⟨rfl,eM⟩;have K6:=aa (K8.o.bZ eM K8.o.lt);have eo:=aa (jt.o.trans (eM.mono jt.o.size));clear eM)|(refine cO rfl _ _ _ rfl _ _ rfl rfl _ K6.o dQ rfl rfl ?_;intro w5 K5 gj));exact lU rfl K5.o rfl rfl HP.o (cC eo.o gj aac af)
theorem tC (s:ByteArray) (hs:s.size≤maxLen) (w:World):Calls prog 40 #[bV s] w fun e w'=>e= .returned (.agg (ig (iw s)).toArray)∧Below w w w':=by
 have qD:=aa (fun W=>nV s W hs);clear hs;go_enter func40,ntmps40;go_upto_region 1 with fail;have K0:=aa (show cN (w.alloc (.cells #[bU 0,bU 0,bU 0,bU 0,bU 0,bU 0] 91)) w 91 [bU 0,bU 0,bU 0,bU 0,bU 0,bU 0]from heap_alloc_new w _);have HB:=aa ((aaf w w).alloc aac (.cells #[bU 0,bU 0,bU 0,bU 0,bU 0,bU 0] 91));generalize w.alloc (.cells #[bU 0,bU 0,bU 0,bU 0,bU 0,bU 0] 91)=w1 at K0 HB ⊢;go_upto_region 2 with(go_at_call 84;refine(qD.o _).mono ?_;rintro e w6 ⟨d0,d1,d2,d3,d4,d5,s',A,nn,c,t,B,m,cc,rfl,hd,_,eM⟩;have K6:=aa (K0.o.bZ eM K0.o.lt);have eo:=aa (HB.o.trans (eM.mono HB.o.size));have HD:=aa (show iw s=[d0,d1,d2,d3,d4,d5]from hd);clear eM hd);have K3:=aa (K6.o.alloc (.cells #[bU d0,bU d1,bU d2,bU d3,bU d4,bU d5,bU s',bW A nn c,bU t,bW B m cc] 165));have eE:=aa (eo.o.alloc eo.o.size (.cells #[bU d0,bU d1,bU d2,bU d3,bU d4,bU d5,bU s',bW A nn c,bU t,bW B m cc] 165));have KD:=aa (show cN (w6.alloc (.cells #[bU d0,bU d1,bU d2,bU d3,bU d4,bU d5,bU s',bW A nn c,bU t,bW B m cc] 165)) w6 165 [bU d0,bU d1,bU d2,bU d3,bU d4,bU d5,bU s',bW A nn c,bU t,bW B m cc]from heap_alloc_new w6 _);generalize w6.alloc (.cells #[bU d0,bU d1,bU d2,bU d3,bU d4,bU d5,bU s',bW A nn c,bU t,bW B m cc] 165)=w3 at K3 eE KD ⊢;have xd:=KD.o.cell;go_wp2_with (refine cO rfl _ _ _ rfl _ _ rfl rfl _ K3.o fE rfl rfl ?_;intro w5 K5 gj);exact bodyPost_ret (results_cell_row rfl _ _ w 91 #[bU d0,bU d1,bU d2,bU d3,bU d4,bU d5] (0,0) _ rfl K5.o underlying91 rfl fE) rfl ⟨by rw[HD.o];rfl,cC eE.o gj aac aac⟩
structure vz (fs:List cK) (tabs:List dX):Prop where
 X:∃ r,wM fs (pR fs) r
 F:yl fs
 ck:gO fs=0
 sf:∀ f∈fs,lV f.body
 tl:tabs.length≤1000000
 ts:∀ t∈tabs,Uy t
def vA (vs:List fC):Prop:=vs.length≤1000000∧∀ v∈vs,v.2.length=6∧v.1.size≤maxLen
noncomputable abbrev XE (fs:List cK):cw→Int×cw:=fP fs (pR fs)
theorem Fj {fs:List cK} {tabs:List dX} (h:vz fs tabs) {x:cw} (hr:eZ x=true) (h0:(XE fs x).1=0):lV (XE fs x).2∧cE (XE fs x).2≤200:=by
 obtain⟨r,hX⟩:=h.X;unfold XE fP at h0 ⊢;cases hu:dy (jG fs) x with
 |true=>rw[hu]at h0;simp at h0
 |false=>
  rw[hu]at h0;cases hv:dy (jX fs) x with
  |true=>rw[hv]at h0;simp at h0
  |false=>
   rw[hv]at h0;cases hf:(eC (pR fs) fs x).full with
   |true=>rw[hf]at h0;simp at h0
   |false=>
    simp only[Bool.false_eq_true,if_false];refine⟨Gp _ _ aac (gM hr).1 fun j hj=>Tg hX h.sf _ j (sQ _ _ aac hu j hj) (Nat.lt_succ_self _),?_⟩;have h1:=wI (G:=pR fs) (fs:=fs) x hf;have h2:=t_ (G:=pR fs) (fs:=fs) x;unfold pO at h2;omega
theorem pJ {x:cw} (h:eZ x=true):cE x≤1000000:=by
 unfold eZ at h;simp at h;omega
theorem rD {fn:Func} (hf:fn.results=#[.cell 4 91,.tmp 5]) {P:Ending→World→Prop} {q:Int×List Int} {w w5:World} {tm:Array Value} {g:Nat} (K5:cN w5 g 91 (ig q.2)) (hp:tm.getD 4 undef= .pointer (bY g 0)) (hv:tm.getD 5 undef=bU q.1)
 (HP:∀ e w',tj q w e w'→P e w') (hb:Below w w w5):bodyPost prog fn P .ret ⟨tm,[]⟩ w5:=
 bodyPost_ret (cM hf _ _ _ 91 _ _ _ hp hv K5 underlying91 rfl fE) rfl (HP _ _ ⟨rfl,hb⟩)
theorem Ap (FA TA VA:Option Addr) (fc tc vc:Nat) (fs:List cK) (tabs:List dX) (vs:List fC) (hO:vz fs tabs) (hV:vA vs) (z0 z1 z2 z5 z6 z7 z8:Value) (x:cw) (hr:eZ x=true) (cs:List Value) (w:World) (LM:Sq gR w Any FA fs) (hts:Sq mz w Any TA tabs) (hvs:Sq nL w Any VA vs) (hI:cH w Any cs x):Calls prog 83 #[.agg #[z0,z1,z2,bW TA tabs tc,bW FA fs fc,z5,z6,z7,z8,bW VA vs vc],.agg cs.toArray] w (tj (rQ (XE fs) tabs vs x) w):=by
 generalize hP:tj (rQ (XE fs) tabs vs x) w=P
 have HP:=aa (show ∀ e w',tj (rQ (XE fs) tabs vs x) w e w'→P e w' from fun e w' h=>hP▸h)
 clear hP
 have HR:Hid (rQ (XE fs) tabs vs x=(if(XE fs x).1=0 then(if(jh vs tabs (XE fs x).2).1=0∧(jh vs tabs (XE fs x).2).2.truth=true then 13 else(jh vs tabs (XE fs x).2).1,(jh vs tabs (XE fs x).2).2.jQ)else((XE fs x).1,eH):Int×List Int)):=aa rfl
 obtain⟨r,hX⟩:=hO.X
 have nY:=aa (fun W (h:Below w w W)=>pF FA fc fs (pR fs) r hX hO.F hO.ck x (pJ hr) hr (gM hr).1 W cs (LM.bZ h) (dh.keep hI (cB.cA h)))
 have vH:=aa (fun h0=>Fj hO hr h0)
 have Xv:=aa (fun y ds W (h1:cE y≤1000000) (h2:lV y) (h3:cH W Any ds y) (h:Below w w W)=>inf_Of y ds h1 h2 VA TA vc tc vs tabs W h3 (hvs.bZ h) (hts.bZ h) hV.1 hO.tl hV.2 hO.ts)
 obtain⟨op,n,un,nm,A2,c2,ar,e1,e2,hS⟩:=cH.parts hI
 subst e2
 clear hI hS hX hO hV LM hts hvs hr
 generalize rQ (XE fs) tabs vs x=q at HP HR
 change Hid (∀ W,Below w w W→Calls _ _ _ _ (oC (XE fs x) W))at nY
 generalize XE fs x=ex at HR nY vH
 obtain⟨ee,y⟩:=ex
 dsimp only at HR vH
 generalize ar.length=la at nY ⊢
 generalize fs.length=lf at nY ⊢
 generalize tabs.length=lt at Xv ⊢
 generalize vs.length=lv at Xv ⊢
 go_enter func83,ntmps83
 go_upto_region 1 with fail
 obtain⟨w1,hw1,K0,K1,K2,HB⟩:=oH w [z0,z1,z2,bW TA lt tc,bW FA lf fc,z5,z6,z7,z8,bW VA lv vc] [.int .i64 op,.int .i64 n,bV un,bV nm,bW A2 la c2] [.int .i64 0,.int .i64 0,.int .i64 0,.int .i64 0,.int .i64 0,.int .i64 0] 89 47 91
 rw[hw1]
 clear hw1
 have x0:=K0.o.cell
 have x1:=K1.o.cell
 go_upto_region 2 with(go_at_call 42;refine(nY.o _ HB.o).mono ?_;rintro e w2 ⟨ds,rfl,hds,hb2⟩;obtain⟨eU,yn,eV,eW,A3,c3,yr,e3,rfl,hyS⟩:=cH.parts hds;have HDs:=aa hds;have dI:=aa (HB.o.trans (hb2.mono HB.o.size));have K02:=aa (K0.o.bZ hb2 K0.o.lt);have K22:=aa (K2.o.bZ hb2 K2.o.lt);clear hds hyS hb2 x0 x1)
 have KY:=aa (show cN (w2.alloc (.cells #[bU eU,bU yn,bV eV,bV eW,bW A3 yr c3] 47)) w2 47 [bU eU,bU yn,bV eV,bV eW,bW A3 yr c3]from heap_alloc_new w2 _)
 have hal:Below w2 w2 (w2.alloc (.cells #[bU eU,bU yn,bV eV,bV eW,bW A3 yr c3] 47)):=cS _
 replace HDs:=aa (show cH (w2.alloc (.cells #[bU eU,bU yn,bV eV,bV eW,bW A3 yr c3] 47)) Any [bU eU,bU yn,bV eV,bV eW,bW A3 yr c3] y from(dh.keep HDs.o (cB.cA hal)).mono fun _ _ _=>trivial)
 have eE:=aa (dI.o.trans (hal.mono dI.o.size))
 have P3:=aa (K02.o.bZ hal K02.o.lt)
 have Xw:=aa (K22.o.bZ hal K22.o.lt)
 generalize w2.alloc (.cells #[bU eU,bU yn,bV eV,bV eW,bW A3 yr c3] 47)=w3 at KY HDs eE P3 Xw ⊢
 clear K02 K22 dI K0 K1 K2 HB e3 hal nY
 by_cases h0:ee=0
 case neg=>
  have HE:=aa (show q=(ee,eH) by rw[HR.o,if_neg h0]);have zr:(ee != 0)=true:=aS;clear h0;go_wp2_with (refine cO rfl _ _ _ rfl _ _ rfl rfl _ Xw.o fE rfl rfl ?_;intro w5 K5 gj);exact rD (q:=q) rfl bP rfl aV HP.o (cC eE.o gj aac af)
 case pos=>
  replace HR:=aa (show q=(if(jh vs tabs y).1=0∧(jh vs tabs y).2.truth=true then 13 else(jh vs tabs y).1,(jh vs tabs y).2.jQ) by rw[HR.o,if_pos h0])
  have hsm:=vH.o h0
  have zj:=aa (Xv.o y _ w3 af hsm.1 HDs.o eE.o)
  clear hsm Xv vH
  subst h0
  obtain⟨it,hit⟩:∃ it,it=(jh vs tabs y).2:=⟨_,rfl⟩
  obtain⟨ie,hie⟩:∃ ie,ie=(jh vs tabs y).1:=⟨_,rfl⟩
  have HC:Hid (Calls prog 135 #[.agg #[bU eU,bU yn,bV eV,bV eW,bW A3 yr c3],bW VA lv vc,bW TA lt tc] w3 fun e w'=>e= .returned (.tuple #[.agg #[.bool it.truth,bU (it.jQ.getD 0 0),bU (it.jQ.getD 1 0),bU (it.jQ.getD 2 0),bU (it.jQ.getD 3 0),bU (it.jQ.getD 4 0),bU (it.jQ.getD 5 0)],bU ie])∧Below w3 w3 w'):=aa (by rw[hit,hie];exact zj.o)
  rw[← hit, ← hie]at HR
  clear hit hie zj
  have HT:Hid (ig it.jQ=[bU (it.jQ.getD 0 0),bU (it.jQ.getD 1 0),bU (it.jQ.getD 2 0),bU (it.jQ.getD 3 0),bU (it.jQ.getD 4 0),bU (it.jQ.getD 5 0)]):=aa rfl
  generalize it.truth=bt at HC HR
  generalize it.jQ.getD 0 0=t0 at HC HT
  generalize it.jQ.getD 1 0=t1 at HC HT
  generalize it.jQ.getD 2 0=t2 at HC HT
  generalize it.jQ.getD 3 0=t3 at HC HT
  generalize it.jQ.getD 4 0=t4 at HC HT
  generalize it.jQ.getD 5 0=t5 at HC HT
  have x3:=P3.o.cell
  have xy:=KY.o.cell
  go_upto_region 5 with(go_at_call 135;refine HC.o.mono ?_;rintro e w6 ⟨rfl,eM⟩;have K6:=aa (Xw.o.bZ eM Xw.o.lt);have eo:=aa (eE.o.trans (eM.mono eE.o.size));clear eM x3 xy)
  have K7:=aa (K6.o.alloc (.cells #[.bool bt,bU t0,bU t1,bU t2,bU t3,bU t4,bU t5] 137))
  have j9:=aa (eo.o.alloc eo.o.size (.cells #[.bool bt,bU t0,bU t1,bU t2,bU t3,bU t4,bU t5] 137))
  have KT:=aa (show cN (w6.alloc (.cells #[.bool bt,bU t0,bU t1,bU t2,bU t3,bU t4,bU t5] 137)) w6 137 [.bool bt,bU t0,bU t1,bU t2,bU t3,bU t4,bU t5]from heap_alloc_new w6 _)
  generalize w6.alloc (.cells #[.bool bt,bU t0,bU t1,bU t2,bU t3,bU t4,bU t5] 137)=w7 at K7 j9 KT ⊢
  have xt:=KT.o.cell
  by_cases hi:ie=0
  case pos=>
   subst hi;cases bt;(case false=>have HE:=aa (show q=(0,it.jQ) by rw[HR.o];rfl);go_wp2_with (refine cO rfl _ _ _ rfl _ _ rfl rfl _ K7.o fE rfl rfl ?_;intro w5 K5 gj);exact rD (q:=q) rfl bB rfl aV HP.o (cC j9.o gj aac af));have HE:=aa (show q=(13,it.jQ) by rw[HR.o];rfl);go_wp2_with (refine cO rfl _ _ _ rfl _ _ rfl rfl _ K7.o fE rfl rfl ?_;intro w5 K5 gj);exact rD (q:=q) rfl bB rfl aV HP.o (cC j9.o gj aac af)
  case neg=>
   have HE:=aa (show q=(ie,it.jQ) by rw[HR.o,if_neg (fun h=>hi h.1)]);have zi:(ie==0)=false:=aW;clear hi;go_wp2_with (refine cO rfl _ _ _ rfl _ _ rfl rfl _ K7.o fE rfl rfl ?_;intro w5 K5 gj);exact rD (q:=q) rfl bB rfl aV HP.o (cC j9.o gj aac af)
theorem GX:∀ args w,(callFunc 134 args).run prog w= .ok (.enter 134 args) w:=enters_of func134 ah rfl
theorem UB (pp:Nat) (nm:ByteArray) (l:List cK) (w:World) (hc:b_ w pp 3 (bV nm)) (hp:pp<w.heap.size):jT prog 134 #[.pointer (bY pp 0)] gR (Kz nm) l w:=fun W cs x hx ey hb=>by
 obtain⟨A,d,es,e,hsp,hie⟩:=ey;obtain⟨op,n,un,nm2,A2,c2,ar,_,hes,_⟩:=hie.parts;subst hes e;have h0:b_ W pp 3 (bV nm):=(hb.cell (p:=bY pp 3) hp).trans hc;have hpW:pp<W.heap.size:=aaD hp hb.size;have HE:=aa (show(x.name.toList==nm.toList)=Kz nm x from FY _ _);generalize Kz nm x=z at HE;clear hsp hie hx;generalize x.name=xn at HE;generalize x.params.length=xl;show Calls prog 134 #[.agg #[bV xn,bW A xl d,bU op,bU n,bV un,bV nm2,bW A2 ar c2],.pointer (bY pp 0)] W _;go_enter func134,ntmps134;go_wp2;go_ret;exact⟨by show Ending.returned (.bool (xn.toList==nm.toList))=_;rw[HE.o],cS _⟩
theorem Fk {op n:Int} {u nm:ByteArray} {l:List cw} (h:eZ (.mk op n u nm l)=true) {y:cw} (hy:y∈l):eZ y=true:=by
 unfold eZ at h ⊢;simp only[aag,decide_eq_true_eq]at h ⊢;obtain⟨⟨h1,h2⟩,h3⟩:=h;have hn:cE (.mk op n u nm l)=1+cR l:=aM;have hd:iJ (.mk op n u nm l)=1+ir l:=(by unfold iJ;rfl);have h4:=dH l y hy;have h5:iJ y≤ir l:=by
  obtain⟨k,hk,rfl⟩:=List.getElem_of_mem hy;have:=su l k l[k] (List.getElem?_eq_getElem hk);have h6:=xV l (k+1);omega
 refine⟨⟨by omega,by omega⟩,?_⟩;have h7:lF l=true:=by
  (have:p9 op n u nm l.length=true∧lF l=true:=by simpa [gJ]using h3);exact this.2
 exact tv h7 y hy
theorem UC (X:cw→Int×cw) (fs:List cK) (tabs:List dX) (vs:List fC) (op n:Int) (u nm:ByteArray) (l:List cw):oG X fs tabs vs (.mk op n u nm l)=if op=3∧¬jV X tabs vs ((fs[(findF fs nm).toNat]?).elim [] (·.params)) l=0 then jV X tabs vs ((fs[(findF fs nm).toNat]?).elim [] (·.params)) l else kZ X fs tabs vs l:=by
 rw[oG]
theorem Ds {X:cw→Int×cw} {fs:List cK} {tabs:List dX} {vs:List fC} {l:List cw} {k:Nat} (hk:k<l.length):kZ X fs tabs vs (l.drop k)=if oG X fs tabs vs l[k]=0 then kZ X fs tabs vs (l.drop (k+1))else oG X fs tabs vs l[k]:=by
 rw[aah hk,kZ]
theorem J1 {X:cw→Int×cw} {tabs:List dX} {vs:List fC} {ps:List eR} {l:List cw} {k:Nat} (hk:k<l.length) (hp:k<ps.length):jV X tabs vs (ps.drop k) (l.drop k)=if ME X tabs vs ps[k].unit l[k]=0 then jV X tabs vs (ps.drop (k+1)) (l.drop (k+1))else ME X tabs vs ps[k].unit l[k]:=by
 rw[aah hk,aah hp,jV]
theorem J2 {fs:List cK} {tabs:List dX} {vs:List fC} (hV:vA vs) (y:cw):(rQ (XE fs) tabs vs y).2.length=6:=by
 have h6t:Ol (jk tabs):=Dr fun v hv=>by
  unfold jk at hv;obtain⟨t,_,rfl⟩:=aat.1 hv;exact j8 t.unit
 unfold rQ;split
 ·show(jh vs tabs _).2.jQ.length=6;unfold jh;split
  (·rfl);split
  (·exact Oo (Dr fun v hv=>(hV.2 v hv).1) h6t _ _ aac);rfl
 rfl
theorem UD {fs:List cK} (hF:yl fs) {f:cK} (hf:f∈fs) {p0:eR} (hp:p0∈f.params):p0.unit.size≤maxLen:=(((hF.one f hf).1.par p0 hp).sm).2
theorem qG (d0 d1 d2 d3 d4 d5:Int):ig [d0,d1,d2,d3,d4,d5]=[bU d0,bU d1,bU d2,bU d3,bU d4,bU d5]:=rfl
def Qn (r:Int) (w:World) (e:Ending) (w':World):Prop:=e= .returned (bU r)∧Below w w w'
theorem Qo (FA TA VA:Option Addr) (fc tc vc:Nat) (fs:List cK) (tabs:List dX) (vs:List fC) (hO:vz fs tabs) (hV:vA vs) (z0 z1 z2 z5 z6 z7 z8:Value) (N:Nat):∀ (x:cw),cE x≤N→eZ x=true→dy (jG fs) x=false→dy (jX fs) x=false→∀ (cs:List Value) (w:World),Sq gR w Any FA fs→Sq mz w Any TA tabs→Sq nL w Any VA vs→cH w Any cs x→Calls prog 82 #[.agg #[z0,z1,z2,bW TA tabs tc,bW FA fs fc,z5,z6,z7,z8,bW VA vs vc],.agg cs.toArray] w (Qn (oG (XE fs) fs tabs vs x) w):=by
 induction N with
 |zero=>intro x hx;have:=dB x;omega
 |succ N ih=>
  intro x hx hr hun hue cs w LM hts hvs hI;obtain⟨op,n,un,nm,A2,c2,ar,e1,e2,hS⟩:=cH.parts hI;subst e1 e2;have xH:cE (.mk op n un nm ar)=1+cR ar:=aM;have hnl:=fZ ar;have hrn:=pJ hr;rw[lI,Bool.or_eq_false_iff]at hun hue;have N2:=aa hun;have HUe:=aa hue;have vB:=aa (fun y (hy:y∈ar) ds W (h:Below w w W) (hi:cH W Any ds y)=>ih y bq (Fk hr hy) (by have:=hun.2;rw[List.any_eq_false]at this;simpa using this y hy) (by have:=hue.2;rw[List.any_eq_false]at this;simpa using this y hy) ds W (LM.bZ h) (hts.bZ h) (hvs.bZ h) hi);have Xx:=aa (fun y (hy:y∈ar) ds W (h:Below w w W) (hi:cH W Any ds y)=>Ap FA TA VA fc tc vc fs tabs vs hO hV z0 z1 z2 z5 z6 z7 z8 y (Fk hr hy) ds W (LM.bZ h) (hts.bZ h) (hvs.bZ h) hi);have HFs:=aa LM;have HA:=aa hS;have HF:=aa hO.F;obtain⟨r0,hX⟩:=hO.X;have hfl:=hX.len;have har:ar.length≤1000000:=af;have HR:=aa (UC (XE fs) fs tabs vs op n un nm ar);generalize oG (XE fs) fs tabs vs (.mk op n un nm ar)=q at HR ⊢;generalize hP:Qn q w=P;have HP:=aa (show ∀ e w',Qn q w e w'→P e w' from fun e w' h=>hP▸h);have HLf:=aa (show ∀ y∈ar,(rQ (XE fs) tabs vs y).2.length=6 from fun y _=>J2 hV y);clear hP hI hS ih hx hr hun hue hts hvs LM hX hO xH hnl hrn;obtain⟨la,hla⟩:∃ la,la=ar.length:=⟨_,rfl⟩;have QW:=aa hla;obtain⟨lf,hlf⟩:∃ lf,lf=fs.length:=⟨_,rfl⟩;have HLF:=aa hlf;rw[← hla]at har ⊢;rw[← hlf]at vB Xx hfl ⊢;clear hla hlf;generalize tabs.length=lt at vB Xx ⊢;generalize vs.length=lv at vB Xx ⊢;go_enter func82,ntmps82;go_upto_region 1 with fail;obtain⟨w1,hw1,K0,K1,HB⟩:=De w [z0,z1,z2,bW TA lt tc,bW FA lf fc,z5,z6,z7,z8,bW VA lv vc] [.int .i64 op,.int .i64 n,bV un,bV nm,bW A2 la c2] 89 47;rw[hw1];clear hw1;obtain⟨p,hp⟩:∃ p,p=w.heap.size:=⟨_,rfl⟩;have xN:=aa hp;rw[← hp]at K0 K1 ⊢;clear hp;have fG:=aa (show p+2≤w1.heap.size by have:=K1.o.lt;omega);have jB:=aa (show ∀ W,Below (p+2) w1 W→Below w w W from fun W h=>HB.o.trans (h.mono aZ));have x0:=K0.o.cell;have x1:=K1.o.cell;by_cases ho:op=3;(case neg=>have z3:(op==3)=false:=bD;have HQ:=aa (show q=kZ (XE fs) fs tabs vs ar by rw[HR.o,if_neg (fun h=>ho h.1)]);have ep:=aa ((aaf w1 w1).mono fG.o);clear ho;go_wp2_with fail;have UE:=ep;clear ep;go_loopw [60] (fun v wr=>∃ k:Nat,k≤la∧v= .int .i64 (k:Int)∧Hid (kZ (XE fs) fs tabs vs ar=kZ (XE fs) fs tabs vs (ar.drop k))∧Hid (Below (p+2) w1 wr)) (fun v _=>la - (intOf v).toNat);(case atStart=>exact⟨0,aaG _,rfl,aa rfl,UE⟩);clear UE;obtain⟨k,hk,rfl,Q_,ep⟩:=hrel;have x0:=(K0.o.bZ ep.o af).cell;by_cases hlt:k<la;(case pos=>(have nK:k<ar.length:=by have:=QW.o;omega);obtain⟨bl,o,cs,hA,xM,hbl,ey,cT⟩:=(HA.o.bZ (jB.o _ ep.o)).get nK;subst hA;have hmem:=aan nK;obtain⟨eU,yn,eV,eW,A3,c3,yr,qX,hes,_⟩:=cH.parts ey;have Ai:=vB.o _ hmem;have MU:=aa (Ds (X:=XE fs) (fs:=fs) (tabs:=tabs) (vs:=vs) (l:=ar) (k:=k) nK);generalize ar[k]=y at ey Ai qX MU;generalize oG (XE fs) fs tabs vs y=ay at Ai MU;subst hes;have g0:b_ wr bl (o+k*5) (.int .i64 eU):=cT 0 _ rfl;have g1:b_ wr bl (o+k*5+1) (.int .i64 yn):=cT 1 _ rfl;have g2:b_ wr bl (o+k*5+2) (bV eV):=cT 2 _ rfl;have g3:b_ wr bl (o+k*5+3) (bV eW):=cT 3 _ rfl;have g4:b_ wr bl (o+k*5+4) (bW A3 yr c3):=cT 4 _ rfl;have HY:=aa (show cN (wr.alloc (.cells #[.int .i64 eU,.int .i64 yn,bV eV,bV eW,bW A3 yr c3] 47)) wr 47 [.int .i64 eU,.int .i64 yn,bV eV,bV eW,bW A3 yr c3]from heap_alloc_new wr _);have fL:Below wr wr (wr.alloc (.cells #[.int .i64 eU,.int .i64 yn,bV eV,bV eW,bW A3 yr c3] 47)):=cS _;have Mb:Below (p+2) w1 (wr.alloc (.cells #[.int .i64 eU,.int .i64 yn,bV eV,bV eW,bW A3 yr c3] 47)):=ep.o.trans (fL.mono (aaC fG.o ep.o.size));have tX:=aa (Ai _ _ (jB.o _ Mb) (dh.keep ey (cB.cA fL)));have lM:=aa Mb;clear cT ey qX fL Ai Mb;go_upto_region 15 with fail;generalize (wr.alloc (.cells #[.int .i64 eU,.int .i64 yn,bV eV,bV eW,bW A3 yr c3] 47))=wd at HY tX lM ⊢;clear g0 g1 g2 g3 g4 x0;have x0:=(K0.o.bZ lM.o af).cell;have z1:=HY.o.cell;go_upto_region 16 with(go_at_call 82;refine tX.o.mono ?_;rintro e w5 ⟨rfl,ew⟩;have dO:=aa (show Below (p+2) w1 w5 from lM.o.trans (ew.mono (aaC fG.o lM.o.size)));clear ew x0 z1);by_cases h0:ay=0;(case pos=>have IY:=aa (show kZ (XE fs) fs tabs vs ar=kZ (XE fs) fs tabs vs (ar.drop (k+1)) by rw[Q_.o,MU.o,if_pos h0]);subst h0;go_wp2;go_roundw;exact⟨k+1,by omega,rfl,IY,dO⟩;simp[intOf];omega);have HE:=aa (show q=ay by rw[HQ.o,Q_.o,MU.o,if_neg h0]);have zr:(ay != 0)=true:=aS;clear h0;go_wp2;exact HP.o (.returned (.int .i64 ay)) _ ⟨by rw[HE.o],jB.o _ dO.o⟩);have HE:=aa (show q=0 by rw[HQ.o,Q_.o,List.drop_eq_nil_of_le (by have:=QW.o;omega:ar.length≤k),kZ]);(obtain rfl:la=k:=by omega);clear hk;go_wp2;exact HP.o (.returned (.int .i64 0)) _ ⟨by rw[HE.o],jB.o _ ep.o⟩);case pos=>
   have ep:=aa ((aaf w1 w1).mono fG.o)
   have hF0:0≤findF fs nm:=by
    have:(op==3&&decide (findF fs nm<0))=false:=N2.o.1;rw[ho]at this;simp at this;omega
   obtain⟨i,hi⟩:∃ i:Nat,findF fs nm=(i:Int):=⟨(findF fs nm).toNat,by omega⟩
   have hil:i<fs.length:=by
    have h:=hi;unfold findF AH at h;cases hx:fs.findIdx? (Kz nm)with
    |none=>rw[hx]at h;simp at h
    |some j=>
     rw[hx]at h;have:=(List.findIdx?_eq_some_iff_getElem.1 hx).1;simp at h;omega
   have S_:fs[i]? =some fs[i]:=List.getElem?_eq_getElem hil
   have hpl:ar.length=fs[i].params.length:=by
    have:=HUe.o.1;unfold jX at this;rw[show(cw.mk op n un nm ar).op=op from rfl,show(cw.mk op n un nm ar).name=nm from rfl,show(cw.mk op n un nm ar).args=ar from rfl,ho,hi,Int.toNat_natCast,S_]at this;simpa using this
   have hpok:=fun p0 (hp:p0∈fs[i].params)=>UD HF.o (aan hil) hp
   replace HR:=aa (show q=if jV (XE fs) tabs vs fs[i].params ar=0 then kZ (XE fs) fs tabs vs ar else jV (XE fs) tabs vs fs[i].params ar by
    rw[HR.o,hi,Int.toNat_natCast,S_];show(if op=3∧¬jV (XE fs) tabs vs fs[i].params ar=0 then jV (XE fs) tabs vs fs[i].params ar else kZ (XE fs) fs tabs vs ar)=_;by_cases h:jV (XE fs) tabs vs fs[i].params ar=0
    (·rw[if_neg (fun k=>k.2 h),if_pos h]);rw[if_pos ⟨ho,h⟩,if_neg h])
   obtain⟨bf,of_,csf,hA,_,hbf,hisf,hclf⟩:=HFs.o.get hil
   have ZW:=aa (fun W (h:Below w w W) pp hc hp=>BX (Kz nm) 134 #[.pointer (bY pp 0)] GX FA fc fs W (UB pp nm fs W hc hp) (by unfold maxLen;have:=HLF.o;omega) (HFs.o.bZ h))
   rw[show AH (Kz nm) fs=(i:Int)from hi, ← HLF.o]at ZW
   subst hA
   obtain⟨PA,pd,es,P4,hsp,hie⟩:=hisf
   subst P4
   have Nh:=aa hsp
   have f1:b_ w bf (of_+i*7+1) (bW PA fs[i].params.length pd):=hclf 1 _ rfl
   rw[← hpl, ← QW.o]at f1
   have ZU:=aa hpl
   generalize fs[i].params=ps at HR Nh hpok ZU
   have HPok:=aa hpok
   have hif:i<lf:=by have:=HLF.o;omega
   clear hF0 hi hil S_ hpl hpok hsp hie hclf N2 HUe
   subst ho
   go_upto_region 3 with(go_at_call 133;refine(ZW.o _ HB.o (p+1) (by rw[x1];rfl) K1.o.lt).mono ?_;rintro e w2 ⟨rfl,hb2⟩;have dI:=aa (show Below (p+2) w1 w2 from ep.o.trans (hb2.mono fG.o));clear hb2)
   have x1:=(K1.o.bZ dI.o af).cell
   clear ep ZW x0
   go_wp2_with fail
   go_loopw [24] (fun v wr=>∃ k:Nat,k≤la∧v=bU (k:Int)∧Hid (jV (XE fs) tabs vs ps ar=jV (XE fs) tabs vs (ps.drop k) (ar.drop k))∧Hid (Below (p+2) w1 wr)) (fun v _=>la - (intOf v).toNat)
   case atStart=>exact⟨0,aaG _,rfl,aa rfl,dI⟩
   case round=>
    clear x1 dI;obtain⟨k,hk,rfl,Q_,ep⟩:=hrel;have x0:=(K0.o.bZ ep.o af).cell;have x1:=(K1.o.bZ ep.o af).cell;by_cases hlt:k<la;case pos=>
     (have nK:k<ar.length:=by have:=QW.o;omega);obtain⟨bl,o,cs,hA,xM,hbl,ey,cT⟩:=(HA.o.bZ (jB.o _ ep.o)).get nK;subst hA;have hmem:=aan nK;obtain⟨eU,yn,eV,eW,A3,c3,yr,qX,hes,_⟩:=cH.parts ey;(have hkp:k<ps.length:=by have:=ZU.o;omega);obtain⟨bp,Xy,csp,hAp,_,DT,hcsp,J3⟩:=Nh.o.get hkp;subst hAp;have hcsp:csp=[bV ps[k].name,bV ps[k].unit]:=hcsp;subst hcsp;have f2:b_ w bp (Xy+k*2+1) (bV ps[k].unit):=J3 1 _ rfl;have hpu:=HPok.o _ (aan hkp);have uk:=aa (J1 (X:=XE fs) (tabs:=tabs) (vs:=vs) (ps:=ps) (l:=ar) (k:=k) nK hkp);have hnc:=Xx.o _ hmem;have YA:=HLf.o _ hmem;have Qp:=aa (show ME (XE fs) tabs vs ps[k].unit ar[k]=if(rQ (XE fs) tabs vs ar[k]).1=0∧¬(rQ (XE fs) tabs vs ar[k]).2=iw ps[k].unit then 14 else(rQ (XE fs) tabs vs ar[k]).1 by unfold ME;rfl);generalize ME (XE fs) tabs vs ps[k].unit ar[k]=ac at uk Qp;generalize ar[k]=y at ey hnc qX Qp YA;generalize ps[k].unit=pu at f2 hpu Qp;generalize rQ (XE fs) tabs vs y=nc at hnc Qp YA;obtain⟨ne,nd⟩:=nc;obtain⟨d0,d1,d2,d3,d4,d5,rfl⟩:=six YA;subst hes;clear J3 YA;have g0:b_ wr bl (o+k*5) (bU eU):=cT 0 _ rfl;have g1:b_ wr bl (o+k*5+1) (bU yn):=cT 1 _ rfl;have g2:b_ wr bl (o+k*5+2) (bV eV):=cT 2 _ rfl;have g3:b_ wr bl (o+k*5+3) (bV eW):=cT 3 _ rfl;have g4:b_ wr bl (o+k*5+4) (bW A3 yr c3):=cT 4 _ rfl;have HY:=aa (show cN (wr.alloc (.cells #[bU eU,bU yn,bV eV,bV eW,bW A3 yr c3] 47)) wr 47 [bU eU,bU yn,bV eV,bV eW,bW A3 yr c3]from heap_alloc_new wr _);have fL:Below wr wr (wr.alloc (.cells #[bU eU,bU yn,bV eV,bV eW,bW A3 yr c3] 47)):=cS _;have Mb:Below (p+2) w1 (wr.alloc (.cells #[bU eU,bU yn,bV eV,bV eW,bW A3 yr c3] 47)):=ep.o.trans (fL.mono (aaC fG.o ep.o.size));have tX:Hid (Calls prog 83 #[.agg #[z0,z1,z2,bW TA lt tc,bW (bY bf of_) lf fc,z5,z6,z7,z8,bW VA lv vc],.agg #[bU eU,bU yn,bV eV,bV eW,bW A3 yr c3]] (wr.alloc (.cells #[bU eU,bU yn,bV eV,bV eW,bW A3 yr c3] 47)) fun e w'=>e= .returned (.tuple #[.agg #[bU d0,bU d1,bU d2,bU d3,bU d4,bU d5],bU ne])∧Below (wr.alloc (.cells #[bU eU,bU yn,bV eV,bV eW,bW A3 yr c3] 47)).heap.size (wr.alloc (.cells #[bU eU,bU yn,bV eV,bV eW,bW A3 yr c3] 47)) w'):=by
      have h1:=hnc _ _ (jB.o _ Mb) (dh.keep ey (cB.cA fL));refine aa (h1.mono ?_);rintro e w' ⟨h2,h3⟩;refine⟨h2.trans ?_,h3⟩;show Ending.returned (.tuple #[.agg (ig [d0,d1,d2,d3,d4,d5]).toArray,bU ne])=_;rw[qG]
     have lM:=aa Mb;have Yb:=aa f1;have IY:=aa f2;clear cT ey qX fL hnc Mb f1 f2;go_upto_region 6 with fail;generalize (wr.alloc (.cells #[bU eU,bU yn,bV eV,bV eW,bW A3 yr c3] 47))=wd at HY tX lM ⊢;clear g0 g1 g2 g3 g4 x0 x1;have x0:=(K0.o.bZ lM.o af).cell;have z1:=HY.o.cell;go_upto_region 7 with(go_at_call 83;refine tX.o.mono ?_;rintro e w5 ⟨rfl,ew⟩;have dO:=aa (show Below (p+2) w1 w5 from lM.o.trans (ew.mono (aaC fG.o lM.o.size)));clear ew x0 z1);have Xz:=aa (show cN (w5.alloc (.cells #[bU d0,bU d1,bU d2,bU d3,bU d4,bU d5] 91)) w5 91 [bU d0,bU d1,bU d2,bU d3,bU d4,bU d5]from heap_alloc_new w5 _);have eo:=aa (dO.o.alloc (aaC fG.o dO.o.size) (.cells #[bU d0,bU d1,bU d2,bU d3,bU d4,bU d5] 91));generalize w5.alloc (.cells #[bU d0,bU d1,bU d2,bU d3,bU d4,bU d5] 91)=w6 at Xz eo ⊢;generalize w5.heap.size=pd5 at Xz ⊢;have KF:=aa (jB.o _ eo.o);have x0:=(K0.o.bZ eo.o af).cell;have xk:=Xz.o.cell;by_cases hne:ne=0;case neg=>
      have HE:=aa (show q=ne by
       have h1:ac=ne:=(by rw[Qp.o,if_neg (fun h=>hne h.1)]);rw[HR.o,Q_.o,uk.o,h1,if_neg hne,if_neg hne])
      have zn:(ne==0)=false:=(by simpa using hne);have zm:(ne != 0)=true:=(by simpa using hne);clear hne;go_wp2_with fail;go_quiet (fail);have j9:=aa (below_drewN KF.o nq);generalize w6.drewN nq=w7 at j9 ⊢;go_wp2;exact HP.o (.returned (bU ne)) _ ⟨by rw[HE.o],j9.o⟩
     subst hne;have Bo:=aa (fun W=>tC pu hpu W);have y1:=KF.o.cell (p:=bY bf (of_+i*7+1)) hbf;have y2:=KF.o.cell (p:=bY bp (Xy+k*2+1)) DT;rw[Yb.o]at y1;rw[IY.o]at y2;obtain⟨u0,u1,u2,u3,u4,u5,hu⟩:=six (j8 pu);rw[hu]at Bo Qp;simp only[ig,aal,aak]at Bo;have rR:=Bl d0 d1 d2 d3 d4 d5 u0 u1 u2 u3 u4 u5;(try dsimp only at Qp);have hS6:w6.heap.size≤w6:=aaB _;have FQ:=aa (show ∀ W,Below w6 w6 W→∀ b' o',b'<w6.heap.size→W.cell? (bY b' o')=w6.cell? (bY b' o')from fun W h b' o' hb=>h.cell (p:=bY b' o') hb);have q0:p<w6.heap.size:=aaD K0.o.lt eo.o.size;have q1:pd5<w6.heap.size:=Xz.o.lt;have q2:bf<w6.heap.size:=aaD hbf KF.o.size;have q3:bp<w6.heap.size:=aaD DT KF.o.size;have XA:=aa (show Below w6 w6 w6.drew from⟨rfl,rfl,rfl,aaB _,fun _ _=>rfl⟩);by_cases hd:[d0,d1,d2,d3,d4,d5]=[u0,u1,u2,u3,u4,u5];case neg=>
      have HE:=aa (show q=14 by
       have h1:ac=14:=(by rw[Qp.o,if_pos ⟨rfl,hd⟩]);rw[HR.o,Q_.o,uk.o,h1];rfl)
      (have hq:∀ W,(binOp .neq 91 (.agg #[bU d0,bU d1,bU d2,bU d3,bU d4,bU d5]) (.agg #[bU u0,bU u1,bU u2,bU u3,bU u4,bU u5])).run prog W= .ok (.bool true) W:=fun W=>by rw[rR,decide_eq_false hd];rfl);clear rR hd;go_wp2_with fail;refine dz (S:=fun w'=>∀ b' o',b'<w6.heap.size→w'.cell? (bY b' o')=w6.cell? (bY b' o')) [0,1,2,3,4,7,11,5,6,8,9,10,12,13,14,16,17] [(0,false),(1,false),(2,false),(3,false),(4,false),(7,false),(11,false),(5,false),(6,false),(8,false),(9,false),(10,false),(12,false),(13,false),(14,false),(15,true),(16,false),(17,false)] ah ah au rfl ah (fun _ _ _=>rfl) ?_;(iterate 15 refine hwr ?_);refine hwt fun K hK=>?_;go_simp;refine(Bo.o _).mono ?_;rintro e w8 ⟨rfl,oU⟩;have mN:=aa (XA.o.trans (oU.mono XA.o.size));refine hK.o _ _ (FQ.o _ mN.o) ?_;clear hK K;refine hwr ?_;refine hwr ?_;refine fA ?_;(try go_frame);go_wp2;exact HP.o (.returned (bU 14)) _ ⟨by rw[HE.o],KF.o.trans (mN.o.mono KF.o.size)⟩
     have HFz:=aa (show jV (XE fs) tabs vs ps ar=jV (XE fs) tabs vs (ps.drop (k+1)) (ar.drop (k+1)) by
      have h1:ac=0:=(by rw[Qp.o,if_neg (fun h=>h.2 hd)]);rw[Q_.o,uk.o,h1];rfl)
     (have hq:∀ W,(binOp .neq 91 (.agg #[bU d0,bU d1,bU d2,bU d3,bU d4,bU d5]) (.agg #[bU u0,bU u1,bU u2,bU u3,bU u4,bU u5])).run prog W= .ok (.bool false) W:=fun W=>by rw[rR,decide_eq_true hd];rfl);clear rR hd;go_wp2_with fail;refine dz (S:=fun w'=>∀ b' o',b'<w6.heap.size→w'.cell? (bY b' o')=w6.cell? (bY b' o')) [0,1,2,3,4,7,11,5,6,8,9,10,12,13,14,16,17] [(0,false),(1,false),(2,false),(3,false),(4,false),(7,false),(11,false),(5,false),(6,false),(8,false),(9,false),(10,false),(12,false),(13,false),(14,false),(15,true),(16,false),(17,false)] ah ah au rfl ah (fun _ _ _=>rfl) ?_;(iterate 15 refine hwr ?_);refine hwt fun K hK=>?_;go_simp;refine(Bo.o _).mono ?_;rintro e w8 ⟨rfl,oU⟩;have mN:=aa (XA.o.trans (oU.mono XA.o.size));refine hK.o _ _ (FQ.o _ mN.o) ?_;clear hK K;refine hwr ?_;refine hwr ?_;refine fA ?_;(try go_frame);have jt:=aa (show Below (p+2) w1 w8 from eo.o.trans (mN.o.mono (aaC fG.o eo.o.size)));clear x0 xk y1 y2 hq;go_wp2;go_roundw;exact⟨k+1,by omega,rfl,HFz,jt⟩;simp[intOf];omega
    (have hge:ar.length≤k:=by have:=QW.o;omega);(obtain rfl:la=k:=by omega);have HQ:=aa (show q=kZ (XE fs) fs tabs vs ar by
     rw[HR.o,Q_.o,List.drop_eq_nil_of_le hge];(have:jV (XE fs) tabs vs (ps.drop la) []=0:=by cases ps.drop la<;>rfl);rw[this];rfl)
    clear hlt hk x0 hge;go_wp2_with fail;have UE:=ep;clear ep;go_loopw [60] (fun v wr=>∃ k:Nat,k≤la∧v=bU (k:Int)∧Hid (kZ (XE fs) fs tabs vs ar=kZ (XE fs) fs tabs vs (ar.drop k))∧Hid (Below (p+2) w1 wr)) (fun v _=>la - (intOf v).toNat);(case atStart=>exact⟨0,aaG _,rfl,aa rfl,UE⟩);clear UE;obtain⟨k,hk,rfl,Q_,ep⟩:=hrel;have x0:=(K0.o.bZ ep.o af).cell;by_cases hlt:k<la;(case pos=>(have nK:k<ar.length:=by have:=QW.o;omega);obtain⟨bl,o,cs,hA,xM,hbl,ey,cT⟩:=(HA.o.bZ (jB.o _ ep.o)).get nK;subst hA;have hmem:=aan nK;obtain⟨eU,yn,eV,eW,A3,c3,yr,qX,hes,_⟩:=cH.parts ey;have Ai:=vB.o _ hmem;have MU:=aa (Ds (X:=XE fs) (fs:=fs) (tabs:=tabs) (vs:=vs) (l:=ar) (k:=k) nK);generalize ar[k]=y at ey Ai qX MU;generalize oG (XE fs) fs tabs vs y=ay at Ai MU;subst hes;have g0:b_ wr bl (o+k*5) (bU eU):=cT 0 _ rfl;have g1:b_ wr bl (o+k*5+1) (bU yn):=cT 1 _ rfl;have g2:b_ wr bl (o+k*5+2) (bV eV):=cT 2 _ rfl;have g3:b_ wr bl (o+k*5+3) (bV eW):=cT 3 _ rfl;have g4:b_ wr bl (o+k*5+4) (bW A3 yr c3):=cT 4 _ rfl;have HY:=aa (show cN (wr.alloc (.cells #[bU eU,bU yn,bV eV,bV eW,bW A3 yr c3] 47)) wr 47 [bU eU,bU yn,bV eV,bV eW,bW A3 yr c3]from heap_alloc_new wr _);have fL:Below wr wr (wr.alloc (.cells #[bU eU,bU yn,bV eV,bV eW,bW A3 yr c3] 47)):=cS _;have Mb:Below (p+2) w1 (wr.alloc (.cells #[bU eU,bU yn,bV eV,bV eW,bW A3 yr c3] 47)):=ep.o.trans (fL.mono (aaC fG.o ep.o.size));have tX:=aa (Ai _ _ (jB.o _ Mb) (dh.keep ey (cB.cA fL)));have lM:=aa Mb;clear cT ey qX fL Ai Mb;go_upto_region 15 with fail;generalize (wr.alloc (.cells #[bU eU,bU yn,bV eV,bV eW,bW A3 yr c3] 47))=wd at HY tX lM ⊢;clear g0 g1 g2 g3 g4 x0;have x0:=(K0.o.bZ lM.o af).cell;have z1:=HY.o.cell;go_upto_region 16 with(go_at_call 82;refine tX.o.mono ?_;rintro e w5 ⟨rfl,ew⟩;have dO:=aa (show Below (p+2) w1 w5 from lM.o.trans (ew.mono (aaC fG.o lM.o.size)));clear ew x0 z1);by_cases h0:ay=0;(case pos=>have IY:=aa (show kZ (XE fs) fs tabs vs ar=kZ (XE fs) fs tabs vs (ar.drop (k+1)) by rw[Q_.o,MU.o,if_pos h0]);subst h0;go_wp2;go_roundw;exact⟨k+1,by omega,rfl,IY,dO⟩;simp[intOf];omega);have HE:=aa (show q=ay by rw[HQ.o,Q_.o,MU.o,if_neg h0]);have zr:(ay != 0)=true:=aS;clear h0;go_wp2;exact HP.o (.returned (bU ay)) _ ⟨by rw[HE.o],jB.o _ dO.o⟩);have HE:=aa (show q=0 by rw[HQ.o,Q_.o,List.drop_eq_nil_of_le (by have:=QW.o;omega:ar.length≤k),kZ]);(obtain rfl:la=k:=by omega);clear hk;go_wp2;exact HP.o (.returned (bU 0)) _ ⟨by rw[HE.o],jB.o _ ep.o⟩
theorem Fl {fs:List cK} {x:cw} (h0:(XE fs x).1=0):dy (jG fs) x=false∧dy (jX fs) x=false:=by
 unfold XE fP at h0;cases hu:dy (jG fs) x with
 |true=>rw[hu]at h0;simp at h0
 |false=>
  rw[hu]at h0;cases hv:dy (jX fs) x with
  |true=>rw[hv]at h0;simp at h0
  |false=>exact⟨rfl,rfl⟩
theorem Dt (FA TA VA:Option Addr) (fc tc vc:Nat) (fs:List cK) (tabs:List dX) (vs:List fC) (hO:vz fs tabs) (hV:vA vs) (z0 z1 z2 z5 z6 z7 z8:Value) (x:cw) (hr:eZ x=true) (cs:List Value) (w:World) (LM:Sq gR w Any FA fs) (hts:Sq mz w Any TA tabs) (hvs:Sq nL w Any VA vs) (hI:cH w Any cs x):Calls prog 39 #[.agg #[z0,z1,z2,bW TA tabs tc,bW FA fs fc,z5,z6,z7,z8,bW VA vs vc],.agg cs.toArray] w (tj (ji (XE fs) fs tabs vs x) w):=by
 generalize hP:tj (ji (XE fs) fs tabs vs x) w=P;have HP:=aa (show ∀ e w',tj (ji (XE fs) fs tabs vs x) w e w'→P e w' from fun e w' h=>hP▸h);clear hP;have HR:Hid (ji (XE fs) fs tabs vs x=(if ¬(XE fs x).1=0 then((XE fs x).1,eH)else if ¬oG (XE fs) fs tabs vs x=0 then(oG (XE fs) fs tabs vs x,eH)else rQ (XE fs) tabs vs x:Int×List Int)):=aa (by unfold ji;rfl);obtain⟨r,hX⟩:=hO.X;have nY:=aa (fun W (h:Below w w W)=>pF FA fc fs (pR fs) r hX hO.F hO.ck x (pJ hr) hr (gM hr).1 W cs (LM.bZ h) (dh.keep hI (cB.cA h)));have YB:=aa (fun(h0:(XE fs x).1=0) W (h:Below w w W)=>Qo FA TA VA fc tc vc fs tabs vs hO hV z0 z1 z2 z5 z6 z7 z8 (cE x) x aac hr (Fl h0).1 (Fl h0).2 cs W (LM.bZ h) (hts.bZ h) (hvs.bZ h) (dh.keep hI (cB.cA h)));have HNu:=aa (fun W (h:Below w w W)=>Ap FA TA VA fc tc vc fs tabs vs hO hV z0 z1 z2 z5 z6 z7 z8 x hr cs W (LM.bZ h) (hts.bZ h) (hvs.bZ h) (dh.keep hI (cB.cA h)));obtain⟨op,n,un,nm,A2,c2,ar,e1,e2,hS⟩:=cH.parts hI;subst e2;clear hI hS hX hO hV LM hts hvs hr;generalize ji (XE fs) fs tabs vs x=q at HP HR;generalize oG (XE fs) fs tabs vs x=ae at HR YB;generalize rQ (XE fs) tabs vs x=nc at HR HNu;change Hid (∀ W,Below w w W→Calls _ _ _ _ (oC (XE fs x) W))at nY;generalize XE fs x=ex at HR nY YB;obtain⟨ee,y⟩:=ex;dsimp only at HR YB;generalize ar.length=la at nY YB HNu ⊢;generalize fs.length=lf at nY YB HNu ⊢;generalize tabs.length=lt at YB HNu ⊢;generalize vs.length=lv at YB HNu ⊢;go_enter func39,ntmps39;go_upto_region 1 with fail;obtain⟨w1,hw1,K0,K1,K2,HB⟩:=oH w [z0,z1,z2,bW TA lt tc,bW FA lf fc,z5,z6,z7,z8,bW VA lv vc] [.int .i64 op,.int .i64 n,bV un,bV nm,bW A2 la c2] [.int .i64 0,.int .i64 0,.int .i64 0,.int .i64 0,.int .i64 0,.int .i64 0] 89 47 91;rw[hw1];clear hw1;have x0:=K0.o.cell;have x1:=K1.o.cell;go_upto_region 2 with(go_at_call 42;refine(nY.o _ HB.o).mono ?_;rintro e w2 ⟨ds,rfl,hds,hb2⟩;obtain⟨eU,yn,eV,eW,A3,c3,yr,e3,rfl,hyS⟩:=cH.parts hds;have dI:=aa (HB.o.trans (hb2.mono HB.o.size));have K02:=aa (K0.o.bZ hb2 K0.o.lt);have K12:=aa (K1.o.bZ hb2 K1.o.lt);have K22:=aa (K2.o.bZ hb2 K2.o.lt);clear hds hyS e3 hb2 x0 x1);have eE:=aa (dI.o.alloc dI.o.size (.cells #[.int .i64 eU,.int .i64 yn,bV eV,bV eW,bW A3 yr c3] 47));have P3:=aa (K02.o.alloc (.cells #[.int .i64 eU,.int .i64 yn,bV eV,bV eW,bW A3 yr c3] 47));have MH:=aa (K12.o.alloc (.cells #[.int .i64 eU,.int .i64 yn,bV eV,bV eW,bW A3 yr c3] 47));have Xw:=aa (K22.o.alloc (.cells #[.int .i64 eU,.int .i64 yn,bV eV,bV eW,bW A3 yr c3] 47));generalize w2.alloc (.cells #[.int .i64 eU,.int .i64 yn,bV eV,bV eW,bW A3 yr c3] 47)=w3 at eE P3 MH Xw ⊢;clear K02 K12 K22 dI K0 K1 K2 HB nY;by_cases h0:ee=0;(case neg=>have HE:=aa (show q=(ee,eH) by rw[HR.o,if_pos h0]);have zr:(ee != 0)=true:=aS;clear h0;go_wp2_with (refine cO rfl _ _ _ rfl _ _ rfl rfl _ Xw.o fE rfl rfl ?_;intro w5 K5 gj);exact rD (q:=q) rfl bP rfl aV HP.o (cC eE.o gj aac af));case pos=>
  replace HR:=aa (show q=(if ¬ae=0 then(ae,eH)else nc:Int×List Int) by rw[HR.o,if_neg (fun h=>h h0)])
  have HAr2:=aa (YB.o h0 w3 eE.o)
  subst h0
  have x0:=P3.o.cell
  have x1:=MH.o.cell
  go_upto_region 5 with(go_at_call 82;refine HAr2.o.mono ?_;rintro e w4 ⟨rfl,hb4⟩;have gz:=aa (eE.o.trans (hb4.mono eE.o.size));have K04:=aa (P3.o.bZ hb4 P3.o.lt);have K14:=aa (MH.o.bZ hb4 MH.o.lt);have K24:=aa (Xw.o.bZ hb4 Xw.o.lt);clear hb4 x0 x1)
  by_cases ha:ae=0
  case neg=>
   have HE:=aa (show q=(ae,eH) by rw[HR.o,if_pos ha]);have zr:(ae != 0)=true:=(by simpa using ha);clear ha;go_wp2_with (refine cO rfl _ _ _ rfl _ _ rfl rfl _ K24.o fE rfl rfl ?_;intro w5 K5 gj);exact rD (q:=q) rfl bP rfl aV HP.o (cC gz.o gj aac af)
  case pos=>
   have HE:=aa (show q=nc by rw[HR.o,if_neg (fun h=>h ha)]);subst ha;have HNu2:=aa (HNu.o w4 gz.o);rw[← HE.o]at HNu2;have x0:=K04.o.cell;have x1:=K14.o.cell;go_wp2_with (first|(go_at_call 83;refine HNu2.o.mono ?_;rintro e w6 ⟨rfl,eM⟩;have K6:=aa (K24.o.bZ eM K24.o.lt);have eo:=aa (gz.o.trans (eM.mono gz.o.size));clear eM x0 x1)|(refine cO rfl _ _ _ rfl _ _ rfl rfl _ K6.o fE rfl rfl ?_;intro w5 K5 gj));exact rD rfl K5.o rfl rfl HP.o (cC eo.o gj aac af)
end Go.Proofs.YtfppbjfnllhgcaaGreat
