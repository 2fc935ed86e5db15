/- Parts of the proof, packed (CloneQ to BigPack); each theorem bears its own conditions. -/
import Derived.WalkSpells
import Derived.Deep.DeepCutAuto
import Derived.Test.YtkfofnjfihfgkaaGreatDoorPz05
set_option linter.unusedVariables false
set_option linter.unusedSimpArgs false
set_option maxRecDepth 100000
set_option maxHeartbeats 8000000
open Go.Proofs.Tryz
open Go.Lib renaming hid → aa
theorem bL {p:Prop} (h:p:=by simpa using h0):p:=h
namespace Go.Proofs.YtkfofnjfihfgkaaGreatDoor
open Go Go.RowKit Go.Proofs
def dP {α:Type} (R:Rel α) (T:Nat) (S:Nat→Prop) (xs:List α) (w:World) (e:Ending) (w':World):Prop:=
 ∃ A c,e= .returned (bQ A xs c)∧xs.length≤c∧cV R T w w' (fun b=>S b∧b<w.heap.size) (bQ A xs c) xs∧Below w w w'
theorem Sq.kV {α:Type} {R:Rel α} {w:World} {S:Nat→Prop} {xs:List α} (h:Sq R w S none xs):xs=[]:=by
 rcases xs with _|⟨x,r⟩
 (·rfl);obtain⟨b,off,e,_⟩:=h.addr aj;cases e
theorem fL {α:Type} {R:Rel α} {w:World} {S:Nat→Prop} {T:Nat}:cV R T w (w.alloc (.cells #[] T)) S (bQ (bS w 0) 0 0) []:=cV.empty (Nat.le_refl _) T rfl
theorem jI {α:Type} {R:Rel α} {w:World} {S:Nat→Prop} {A:Option Addr} {xs:List α} (h:Sq R w S A xs) (o:Obj):rH R (w.alloc o) (fun b=>(S b∧b<w.heap.size)∧some b≠(bQ (bS w 0) 0 0).ownBlock) A xs:=
 ((h.mono (S':=fun b=>(S b∧b<w.heap.size)∧some b≠(bQ (bS w 0) 0 0).ownBlock) (fun b hb hs=>⟨⟨hs,hb⟩,by simp[Value.ownBlock];omega⟩)).alloc o).ext
theorem GQ (xs:List Sh.eL) (A:Option Addr) (c:Nat) (S:Nat→Prop) (w:World) (hx:Sq gN w S A xs) (hl:xs.length≤10000000000):Calls prog 85 #[bQ A xs c] w (dP gN 143 S xs w):=by
 have q:∀ (w:World) (a:Option Addr) (n c n' c':Nat),(binOp .eql 22 (bQ a n c) (bQ none n' c')).run prog w= .ok (.bool a.isNone) w:=fun w a n c n' c'=>Lib.run_eql_slice_nil w _ _ a n c n' c' Tryz.underlying22;have HX:=aa hx;clear hx;generalize hP:dP gN 143 S xs w=P;have HP:=aa (show ∀ e w',dP gN 143 S xs w e w'→P e w' from fun e w' h=>hP▸h);clear hP;rcases A with _|ad
 (·obtain rfl:=HX.o.kV;simp only[List.length_nil];go_enter func85,ntmps85;go_wp2_with fail;exact HP.o _ _ ⟨none,0,rfl,Nat.le_refl _,cV.pW,Below.refl _ _⟩);have HN:=aa (jI HX.o (.cells #[] 143));generalize hn:xs.length=n at hl ⊢;have iz:=aa hn;clear hn HX;go_enter func85,ntmps85;go_wp2_with (at_builtin;refine cC (R:=gN) (S:=fun b=>S b∧b<w.heap.size) (xs:=[]) (ys:=xs) (T:=143) (t:=22) (B:=w) rfl (.tmp 5) (.tmp 6) 22 rfl rfl Fs fL rfl (some ad) n c rfl iz.o HN.o ?hl ?hB rfl (n:=n) ?hn ?_);(case hl=>simp;omega);(case hB=>simp);(case hn=>simp);intro A9 c9 w9 jw HG;have HQ:=aa (show dP gN 143 S xs w (.returned (bQ A9 n c9)) w9 from⟨A9,c9,by rw[iz.o],iz.o▸jw,iz.o▸HG.o.own,((Below.refl _ w).alloc (Nat.le_refl _) (.cells #[] 143)).trans (HG.o.bU fL aj)⟩);clear HG HN iz jw;go_wp2_with fail;exact HP.o _ _ HQ.o
theorem JT (xs:List Sh.gR) (A:Option Addr) (c:Nat) (S:Nat→Prop) (w:World) (hx:Sq jg w S A xs) (hl:xs.length≤10000000000):Calls prog 86 #[bQ A xs c] w (dP jg 125 S xs w):=by
 have q:∀ (w:World) (a:Option Addr) (n c n' c':Nat),(binOp .eql 23 (bQ a n c) (bQ none n' c')).run prog w= .ok (.bool a.isNone) w:=fun w a n c n' c'=>Lib.run_eql_slice_nil w _ _ a n c n' c' Tryz.underlying23;have HX:=aa hx;clear hx;generalize hP:dP jg 125 S xs w=P;have HP:=aa (show ∀ e w',dP jg 125 S xs w e w'→P e w' from fun e w' h=>hP▸h);clear hP;rcases A with _|ad
 (·obtain rfl:=HX.o.kV;simp only[List.length_nil];go_enter func86,ntmps86;go_wp2_with fail;exact HP.o _ _ ⟨none,0,rfl,Nat.le_refl _,cV.pW,Below.refl _ _⟩);have HN:=aa (jI HX.o (.cells #[] 125));generalize hn:xs.length=n at hl ⊢;have iz:=aa hn;clear hn HX;go_enter func86,ntmps86;go_wp2_with (at_builtin;refine cC (R:=jg) (S:=fun b=>S b∧b<w.heap.size) (xs:=[]) (ys:=xs) (T:=125) (t:=23) (B:=w) rfl (.tmp 5) (.tmp 6) 23 rfl rfl JO fL rfl (some ad) n c rfl iz.o HN.o ?hl ?hB rfl (n:=n) ?hn ?_);(case hl=>simp;omega);(case hB=>simp);(case hn=>simp);intro A9 c9 w9 jw HG;have HQ:=aa (show dP jg 125 S xs w (.returned (bQ A9 n c9)) w9 from⟨A9,c9,by rw[iz.o],iz.o▸jw,iz.o▸HG.o.own,((Below.refl _ w).alloc (Nat.le_refl _) (.cells #[] 125)).trans (HG.o.bU fL aj)⟩);clear HG HN iz jw;go_wp2_with fail;exact HP.o _ _ HQ.o
theorem ML (xs:List Sh.kO) (A:Option Addr) (c:Nat) (S:Nat→Prop) (w:World) (hx:Sq lH w S A xs) (hl:xs.length≤10000000000):Calls prog 87 #[bQ A xs c] w (dP lH 127 S xs w):=by
 have q:∀ (w:World) (a:Option Addr) (n c n' c':Nat),(binOp .eql 27 (bQ a n c) (bQ none n' c')).run prog w= .ok (.bool a.isNone) w:=fun w a n c n' c'=>Lib.run_eql_slice_nil w _ _ a n c n' c' Tryz.underlying27;have HX:=aa hx;clear hx;generalize hP:dP lH 127 S xs w=P;have HP:=aa (show ∀ e w',dP lH 127 S xs w e w'→P e w' from fun e w' h=>hP▸h);clear hP;rcases A with _|ad
 (·obtain rfl:=HX.o.kV;simp only[List.length_nil];go_enter func87,ntmps87;go_wp2_with fail;exact HP.o _ _ ⟨none,0,rfl,Nat.le_refl _,cV.pW,Below.refl _ _⟩);have HN:=aa (jI HX.o (.cells #[] 127));generalize hn:xs.length=n at hl ⊢;have iz:=aa hn;clear hn HX;go_enter func87,ntmps87;go_wp2_with (at_builtin;refine cC (R:=lH) (S:=fun b=>S b∧b<w.heap.size) (xs:=[]) (ys:=xs) (T:=127) (t:=27) (B:=w) rfl (.tmp 5) (.tmp 6) 27 rfl rfl P0 fL rfl (some ad) n c rfl iz.o HN.o ?hl ?hB rfl (n:=n) ?hn ?_);(case hl=>simp;omega);(case hB=>simp);(case hn=>simp);intro A9 c9 w9 jw HG;have HQ:=aa (show dP lH 127 S xs w (.returned (bQ A9 n c9)) w9 from⟨A9,c9,by rw[iz.o],iz.o▸jw,iz.o▸HG.o.own,((Below.refl _ w).alloc (Nat.le_refl _) (.cells #[] 127)).trans (HG.o.bU fL aj)⟩);clear HG HN iz jw;go_wp2_with fail;exact HP.o _ _ HQ.o
theorem JU (xs:List Sh.jz) (A:Option Addr) (c:Nat) (S:Nat→Prop) (w:World) (hx:Sq jh w S A xs) (hl:xs.length≤10000000000):Calls prog 88 #[bQ A xs c] w (dP jh 136 S xs w):=by
 have q:∀ (w:World) (a:Option Addr) (n c n' c':Nat),(binOp .eql 28 (bQ a n c) (bQ none n' c')).run prog w= .ok (.bool a.isNone) w:=fun w a n c n' c'=>Lib.run_eql_slice_nil w _ _ a n c n' c' Tryz.underlying28;have HX:=aa hx;clear hx;generalize hP:dP jh 136 S xs w=P;have HP:=aa (show ∀ e w',dP jh 136 S xs w e w'→P e w' from fun e w' h=>hP▸h);clear hP;rcases A with _|ad
 (·obtain rfl:=HX.o.kV;simp only[List.length_nil];go_enter func88,ntmps88;go_wp2_with fail;exact HP.o _ _ ⟨none,0,rfl,Nat.le_refl _,cV.pW,Below.refl _ _⟩);have HN:=aa (jI HX.o (.cells #[] 136));generalize hn:xs.length=n at hl ⊢;have iz:=aa hn;clear hn HX;go_enter func88,ntmps88;go_wp2_with (at_builtin;refine cC (R:=jh) (S:=fun b=>S b∧b<w.heap.size) (xs:=[]) (ys:=xs) (T:=136) (t:=28) (B:=w) rfl (.tmp 5) (.tmp 6) 28 rfl rfl JQ fL rfl (some ad) n c rfl iz.o HN.o ?hl ?hB rfl (n:=n) ?hn ?_);(case hl=>simp;omega);(case hB=>simp);(case hn=>simp);intro A9 c9 w9 jw HG;have HQ:=aa (show dP jh 136 S xs w (.returned (bQ A9 n c9)) w9 from⟨A9,c9,by rw[iz.o],iz.o▸jw,iz.o▸HG.o.own,((Below.refl _ w).alloc (Nat.le_refl _) (.cells #[] 136)).trans (HG.o.bU fL aj)⟩);clear HG HN iz jw;go_wp2_with fail;exact HP.o _ _ HQ.o
theorem JV (xs:List Sh.eB) (A:Option Addr) (c:Nat) (S:Nat→Prop) (w:World) (hx:Sq fO w S A xs) (hl:xs.length≤10000000000):Calls prog 89 #[bQ A xs c] w (dP fO 106 S xs w):=by
 have q:∀ (w:World) (a:Option Addr) (n c n' c':Nat),(binOp .eql 24 (bQ a n c) (bQ none n' c')).run prog w= .ok (.bool a.isNone) w:=fun w a n c n' c'=>Lib.run_eql_slice_nil w _ _ a n c n' c' Tryz.underlying24;have HX:=aa hx;clear hx;generalize hP:dP fO 106 S xs w=P;have HP:=aa (show ∀ e w',dP fO 106 S xs w e w'→P e w' from fun e w' h=>hP▸h);clear hP;rcases A with _|ad
 (·obtain rfl:=HX.o.kV;simp only[List.length_nil];go_enter func89,ntmps89;go_wp2_with fail;exact HP.o _ _ ⟨none,0,rfl,Nat.le_refl _,cV.pW,Below.refl _ _⟩);have HN:=aa (jI HX.o (.cells #[] 106));generalize hn:xs.length=n at hl ⊢;have iz:=aa hn;clear hn HX;go_enter func89,ntmps89;go_wp2_with (at_builtin;refine cC (R:=fO) (S:=fun b=>S b∧b<w.heap.size) (xs:=[]) (ys:=xs) (T:=106) (t:=24) (B:=w) rfl (.tmp 5) (.tmp 6) 24 rfl rfl JS fL rfl (some ad) n c rfl iz.o HN.o ?hl ?hB rfl (n:=n) ?hn ?_);(case hl=>simp;omega);(case hB=>simp);(case hn=>simp);intro A9 c9 w9 jw HG;have HQ:=aa (show dP fO 106 S xs w (.returned (bQ A9 n c9)) w9 from⟨A9,c9,by rw[iz.o],iz.o▸jw,iz.o▸HG.o.own,((Below.refl _ w).alloc (Nat.le_refl _) (.cells #[] 106)).trans (HG.o.bU fL aj)⟩);clear HG HN iz jw;go_wp2_with fail;exact HP.o _ _ HQ.o
theorem MM (xs:List Sh.eU) (A:Option Addr) (c:Nat) (S:Nat→Prop) (w:World) (hx:Sq jb w S A xs) (hl:xs.length≤10000000000):Calls prog 90 #[bQ A xs c] w (dP jb 76 S xs w):=by
 have q:∀ (w:World) (a:Option Addr) (n c n' c':Nat),(binOp .eql 25 (bQ a n c) (bQ none n' c')).run prog w= .ok (.bool a.isNone) w:=fun w a n c n' c'=>Lib.run_eql_slice_nil w _ _ a n c n' c' Tryz.underlying25;have HX:=aa hx;clear hx;generalize hP:dP jb 76 S xs w=P;have HP:=aa (show ∀ e w',dP jb 76 S xs w e w'→P e w' from fun e w' h=>hP▸h);clear hP;rcases A with _|ad
 (·obtain rfl:=HX.o.kV;simp only[List.length_nil];go_enter func90,ntmps90;go_wp2_with fail;exact HP.o _ _ ⟨none,0,rfl,Nat.le_refl _,cV.pW,Below.refl _ _⟩);have HN:=aa (jI HX.o (.cells #[] 76));generalize hn:xs.length=n at hl ⊢;have iz:=aa hn;clear hn HX;go_enter func90,ntmps90;go_wp2_with (at_builtin;refine cC (R:=jb) (S:=fun b=>S b∧b<w.heap.size) (xs:=[]) (ys:=xs) (T:=76) (t:=25) (B:=w) rfl (.tmp 5) (.tmp 6) 25 rfl rfl P9 fL rfl (some ad) n c rfl iz.o HN.o ?hl ?hB rfl (n:=n) ?hn ?_);(case hl=>simp;omega);(case hB=>simp);(case hn=>simp);intro A9 c9 w9 jw HG;have HQ:=aa (show dP jb 76 S xs w (.returned (bQ A9 n c9)) w9 from⟨A9,c9,by rw[iz.o],iz.o▸jw,iz.o▸HG.o.own,((Below.refl _ w).alloc (Nat.le_refl _) (.cells #[] 76)).trans (HG.o.bU fL aj)⟩);clear HG HN iz jw;go_wp2_with fail;exact HP.o _ _ HQ.o
theorem MN (xs:List Sh.cL) (A:Option Addr) (c:Nat) (S:Nat→Prop) (w:World) (hx:Sq dS w S A xs) (hl:xs.length≤10000000000):Calls prog 91 #[bQ A xs c] w (dP dS 56 S xs w):=by
 have q:∀ (w:World) (a:Option Addr) (n c n' c':Nat),(binOp .eql 26 (bQ a n c) (bQ none n' c')).run prog w= .ok (.bool a.isNone) w:=fun w a n c n' c'=>Lib.run_eql_slice_nil w _ _ a n c n' c' Tryz.underlying26;have HX:=aa hx;clear hx;generalize hP:dP dS 56 S xs w=P;have HP:=aa (show ∀ e w',dP dS 56 S xs w e w'→P e w' from fun e w' h=>hP▸h);clear hP;rcases A with _|ad
 (·obtain rfl:=HX.o.kV;simp only[List.length_nil];go_enter func91,ntmps91;go_wp2_with fail;exact HP.o _ _ ⟨none,0,rfl,Nat.le_refl _,cV.pW,Below.refl _ _⟩);have HN:=aa (jI HX.o (.cells #[] 56));generalize hn:xs.length=n at hl ⊢;have iz:=aa hn;clear hn HX;go_enter func91,ntmps91;go_wp2_with (at_builtin;refine cC (R:=dS) (S:=fun b=>S b∧b<w.heap.size) (xs:=[]) (ys:=xs) (T:=56) (t:=26) (B:=w) rfl (.tmp 5) (.tmp 6) 26 rfl rfl wY fL rfl (some ad) n c rfl iz.o HN.o ?hl ?hB rfl (n:=n) ?hn ?_);(case hl=>simp;omega);(case hB=>simp);(case hn=>simp);intro A9 c9 w9 jw HG;have HQ:=aa (show dP dS 56 S xs w (.returned (bQ A9 n c9)) w9 from⟨A9,c9,by rw[iz.o],iz.o▸jw,iz.o▸HG.o.own,((Below.refl _ w).alloc (Nat.le_refl _) (.cells #[] 56)).trans (HG.o.bU fL aj)⟩);clear HG HN iz jw;go_wp2_with fail;exact HP.o _ _ HQ.o
theorem GR (xs:List Sh.cw) (A:Option Addr) (c:Nat) (S:Nat→Prop) (w:World) (hx:Sq dL w S A xs) (hl:xs.length≤10000000000):Calls prog 92 #[bQ A xs c] w (dP dL 62 S xs w):=by
 have q:∀ (w:World) (a:Option Addr) (n c n' c':Nat),(binOp .eql 29 (bQ a n c) (bQ none n' c')).run prog w= .ok (.bool a.isNone) w:=fun w a n c n' c'=>Lib.run_eql_slice_nil w _ _ a n c n' c' Tryz.underlying29;have HX:=aa hx;clear hx;generalize hP:dP dL 62 S xs w=P;have HP:=aa (show ∀ e w',dP dL 62 S xs w e w'→P e w' from fun e w' h=>hP▸h);clear hP;rcases A with _|ad
 (·obtain rfl:=HX.o.kV;simp only[List.length_nil];go_enter func92,ntmps92;go_wp2_with fail;exact HP.o _ _ ⟨none,0,rfl,Nat.le_refl _,cV.pW,Below.refl _ _⟩);have HN:=aa (jI HX.o (.cells #[] 62));generalize hn:xs.length=n at hl ⊢;have iz:=aa hn;clear hn HX;go_enter func92,ntmps92;go_wp2_with (at_builtin;refine cC (R:=dL) (S:=fun b=>S b∧b<w.heap.size) (xs:=[]) (ys:=xs) (T:=62) (t:=29) (B:=w) rfl (.tmp 5) (.tmp 6) 29 rfl rfl Fu fL rfl (some ad) n c rfl iz.o HN.o ?hl ?hB rfl (n:=n) ?hn ?_);(case hl=>simp;omega);(case hB=>simp);(case hn=>simp);intro A9 c9 w9 jw HG;have HQ:=aa (show dP dL 62 S xs w (.returned (bQ A9 n c9)) w9 from⟨A9,c9,by rw[iz.o],iz.o▸jw,iz.o▸HG.o.own,((Below.refl _ w).alloc (Nat.le_refl _) (.cells #[] 62)).trans (HG.o.bU fL aj)⟩);clear HG HN iz jw;go_wp2_with fail;exact HP.o _ _ HQ.o
theorem RI (xs:List Sh.ym) (A:Option Addr) (c:Nat) (S:Nat→Prop) (w:World) (hx:Sq yw w S A xs) (hl:xs.length≤10000000000):Calls prog 93 #[bQ A xs c] w (dP yw 153 S xs w):=by
 have q:∀ (w:World) (a:Option Addr) (n c n' c':Nat),(binOp .eql 104 (bQ a n c) (bQ none n' c')).run prog w= .ok (.bool a.isNone) w:=fun w a n c n' c'=>Lib.run_eql_slice_nil w _ _ a n c n' c' Tryz.underlying104;have HX:=aa hx;clear hx;generalize hP:dP yw 153 S xs w=P;have HP:=aa (show ∀ e w',dP yw 153 S xs w e w'→P e w' from fun e w' h=>hP▸h);clear hP;rcases A with _|ad
 (·obtain rfl:=HX.o.kV;simp only[List.length_nil];go_enter func93,ntmps93;go_wp2_with fail;exact HP.o _ _ ⟨none,0,rfl,Nat.le_refl _,cV.pW,Below.refl _ _⟩);have HN:=aa (jI HX.o (.cells #[] 153));generalize hn:xs.length=n at hl ⊢;have iz:=aa hn;clear hn HX;go_enter func93,ntmps93;go_wp2_with (at_builtin;refine cC (R:=yw) (S:=fun b=>S b∧b<w.heap.size) (xs:=[]) (ys:=xs) (T:=153) (t:=104) (B:=w) rfl (.tmp 5) (.tmp 6) 104 rfl rfl Tryz.infRow fL rfl (some ad) n c rfl iz.o HN.o ?hl ?hB rfl (n:=n) ?hn ?_);(case hl=>simp;omega);(case hB=>simp);(case hn=>simp);intro A9 c9 w9 jw HG;have HQ:=aa (show dP yw 153 S xs w (.returned (bQ A9 n c9)) w9 from⟨A9,c9,by rw[iz.o],iz.o▸jw,iz.o▸HG.o.own,((Below.refl _ w).alloc (Nat.le_refl _) (.cells #[] 153)).trans (HG.o.bU fL aj)⟩);clear HG HN iz jw;go_wp2_with fail;exact HP.o _ _ HQ.o
theorem JW (xs:List Sh.mX) (A:Option Addr) (c:Nat) (S:Nat→Prop) (w:World) (hx:Sq jM w S A xs) (hl:xs.length≤10000000000):Calls prog 94 #[bQ A xs c] w (dP jM 78 S xs w):=by
 have q:∀ (w:World) (a:Option Addr) (n c n' c':Nat),(binOp .eql 74 (bQ a n c) (bQ none n' c')).run prog w= .ok (.bool a.isNone) w:=fun w a n c n' c'=>Lib.run_eql_slice_nil w _ _ a n c n' c' Tryz.underlying74;have HX:=aa hx;clear hx;generalize hP:dP jM 78 S xs w=P;have HP:=aa (show ∀ e w',dP jM 78 S xs w e w'→P e w' from fun e w' h=>hP▸h);clear hP;rcases A with _|ad
 (·obtain rfl:=HX.o.kV;simp only[List.length_nil];go_enter func94,ntmps94;go_wp2_with fail;exact HP.o _ _ ⟨none,0,rfl,Nat.le_refl _,cV.pW,Below.refl _ _⟩);have HN:=aa (jI HX.o (.cells #[] 78));generalize hn:xs.length=n at hl ⊢;have iz:=aa hn;clear hn HX;go_enter func94,ntmps94;go_wp2_with (at_builtin;refine cC (R:=jM) (S:=fun b=>S b∧b<w.heap.size) (xs:=[]) (ys:=xs) (T:=78) (t:=74) (B:=w) rfl (.tmp 5) (.tmp 6) 74 rfl rfl UU fL rfl (some ad) n c rfl iz.o HN.o ?hl ?hB rfl (n:=n) ?hn ?_);(case hl=>simp;omega);(case hB=>simp);(case hn=>simp);intro A9 c9 w9 jw HG;have HQ:=aa (show dP jM 78 S xs w (.returned (bQ A9 n c9)) w9 from⟨A9,c9,by rw[iz.o],iz.o▸jw,iz.o▸HG.o.own,((Below.refl _ w).alloc (Nat.le_refl _) (.cells #[] 78)).trans (HG.o.bU fL aj)⟩);clear HG HN iz jw;go_wp2_with fail;exact HP.o _ _ HQ.o
theorem MO (xs:List Sh.dV) (A:Option Addr) (c:Nat) (S:Nat→Prop) (w:World) (hx:Sq gT w S A xs) (hl:xs.length≤10000000000):Calls prog 95 #[bQ A xs c] w (dP gT 65 S xs w):=by
 have q:∀ (w:World) (a:Option Addr) (n c n' c':Nat),(binOp .eql 60 (bQ a n c) (bQ none n' c')).run prog w= .ok (.bool a.isNone) w:=fun w a n c n' c'=>Lib.run_eql_slice_nil w _ _ a n c n' c' Tryz.underlying60;have HX:=aa hx;clear hx;generalize hP:dP gT 65 S xs w=P;have HP:=aa (show ∀ e w',dP gT 65 S xs w e w'→P e w' from fun e w' h=>hP▸h);clear hP;rcases A with _|ad
 (·obtain rfl:=HX.o.kV;simp only[List.length_nil];go_enter func95,ntmps95;go_wp2_with fail;exact HP.o _ _ ⟨none,0,rfl,Nat.le_refl _,cV.pW,Below.refl _ _⟩);have HN:=aa (jI HX.o (.cells #[] 65));generalize hn:xs.length=n at hl ⊢;have iz:=aa hn;clear hn HX;go_enter func95,ntmps95;go_wp2_with (at_builtin;refine cC (R:=gT) (S:=fun b=>S b∧b<w.heap.size) (xs:=[]) (ys:=xs) (T:=65) (t:=60) (B:=w) rfl (.tmp 5) (.tmp 6) 60 rfl rfl P_ fL rfl (some ad) n c rfl iz.o HN.o ?hl ?hB rfl (n:=n) ?hn ?_);(case hl=>simp;omega);(case hB=>simp);(case hn=>simp);intro A9 c9 w9 jw HG;have HQ:=aa (show dP gT 65 S xs w (.returned (bQ A9 n c9)) w9 from⟨A9,c9,by rw[iz.o],iz.o▸jw,iz.o▸HG.o.own,((Below.refl _ w).alloc (Nat.le_refl _) (.cells #[] 65)).trans (HG.o.bU fL aj)⟩);clear HG HN iz jw;go_wp2_with fail;exact HP.o _ _ HQ.o
theorem yE (xs:List ByteArray) (A:Option Addr) (c:Nat) (S:Nat→Prop) (w:World) (hx:Sq dw w S A xs) (hl:xs.length≤10000000000):Calls prog 96 #[bQ A xs c] w (dP dw 9 S xs w):=by
 have q:∀ (w:World) (a:Option Addr) (n c n' c':Nat),(binOp .eql 63 (bQ a n c) (bQ none n' c')).run prog w= .ok (.bool a.isNone) w:=fun w a n c n' c'=>Lib.run_eql_slice_nil w _ _ a n c n' c' Tryz.underlying63;have HX:=aa hx;clear hx;generalize hP:dP dw 9 S xs w=P;have HP:=aa (show ∀ e w',dP dw 9 S xs w e w'→P e w' from fun e w' h=>hP▸h);clear hP;rcases A with _|ad
 (·obtain rfl:=HX.o.kV;simp only[List.length_nil];go_enter func96,ntmps96;go_wp2_with fail;exact HP.o _ _ ⟨none,0,rfl,Nat.le_refl _,cV.pW,Below.refl _ _⟩);have HN:=aa (jI HX.o (.cells #[] 9));generalize hn:xs.length=n at hl ⊢;have iz:=aa hn;clear hn HX;go_enter func96,ntmps96;go_wp2_with (at_builtin;refine cC (R:=dw) (S:=fun b=>S b∧b<w.heap.size) (xs:=[]) (ys:=xs) (T:=9) (t:=63) (B:=w) rfl (.tmp 5) (.tmp 6) 63 rfl rfl nh fL rfl (some ad) n c rfl iz.o HN.o ?hl ?hB rfl (n:=n) ?hn ?_);(case hl=>simp;omega);(case hB=>simp);(case hn=>simp);intro A9 c9 w9 jw HG;have HQ:=aa (show dP dw 9 S xs w (.returned (bQ A9 n c9)) w9 from⟨A9,c9,by rw[iz.o],iz.o▸jw,iz.o▸HG.o.own,((Below.refl _ w).alloc (Nat.le_refl _) (.cells #[] 9)).trans (HG.o.bU fL aj)⟩);clear HG HN iz jw;go_wp2_with fail;exact HP.o _ _ HQ.o
end Go.Proofs.YtkfofnjfihfgkaaGreatDoor
namespace Sh
open Kb
section
mutual
def rV (f:Int→ByteArray→ByteArray):cD→cD
 | .mk op n unit name l=> .mk op n unit (f op name) (GS f l)
def GS (f:Int→ByteArray→ByteArray):List cD→List cD
 |[]=>[]
 |x :: l=>rV f x :: GS f l
end
mutual
def tF (g:Int→ByteArray→List ByteArray):cD→List ByteArray
 | .mk op _ _ name l=>g op name++RJ g l
def RJ (g:Int→ByteArray→List ByteArray):List cD→List ByteArray
 |[]=>[]
 |x :: l=>tF g x++RJ g l
end
theorem Cv (f:Int→ByteArray→ByteArray):∀ l:List cD,GS f l=l.map (rV f)
 |[]=>rfl
 |x :: l=>by unfold GS;rw[Cv f l];rfl
theorem Fv (g:Int→ByteArray→List ByteArray):∀ l:List cD,RJ g l=l.flatMap (tF g)
 |[]=>rfl
 |x :: l=>by unfold RJ;rw[Fv g l];rfl
mutual
theorem Qa:∀ x:cD,rV (fun _ s=>s) x=x
 | .mk op n unit name l=>by unfold rV;rw[Qb l]
theorem Qb:∀ l:List cD,GS (fun _ s=>s) l=l
 |[]=>rfl
 |x :: l=>by unfold GS;rw[Qa x,Qb l]
end
def JX (p:ByteArray) (op:Int) (s:ByteArray):ByteArray:=if jQ op then er p s else s
def JY (op:Int) (s:ByteArray):List ByteArray:=if jQ op then[s]else[]
mutual
theorem tG (p:ByteArray):∀ x:cD,rV (JX p) x=kP p x
 | .mk op n unit name l=>by unfold rV kP;rw[zR p l];rfl
theorem zR (p:ByteArray):∀ l:List cD,GS (JX p) l=kI p l
 |[]=>rfl
 |x :: l=>by unfold GS kI;rw[tG p x,zR p l]
end
mutual
theorem vz:∀ x:cD,tF JY x=iT x
 | .mk op n unit name l=>by unfold tF iT;rw[Cw l];rfl
theorem Cw:∀ l:List cD,RJ JY l=yt l
 |[]=>rfl
 |x :: l=>by unfold RJ yt;rw[vz x,Cw l]
end
mutual
def ZE (N:Nat):cD→Prop
 | .mk _ _ _ name l=>name.size≤N∧RL N l
def RL (N:Nat):List cD→Prop
 |[]=>True
 |x :: l=>ZE N x∧RL N l
end
theorem RL.mem {N:Nat}:∀ {l:List cD},RL N l→∀ x∈l,ZE N x
 |[],_,x,hx=>by cases hx
 |y :: l,h,x,hx=>by
  unfold RL at h;rcases List.mem_cons.1 hx with rfl|hx
  (·exact h.1);exact RL.mem h.2 x hx
theorem rW {α β:Type} (f:α→List β) {xs:List α} {k:Nat} (h:k<xs.length):(xs.take (k+1)).flatMap f=(xs.take k).flatMap f++f xs[k]:=by
 rw[List.take_add_one,List.getElem?_eq_getElem h,List.flatMap_append];simp
theorem kr {α β:Type} (f:α→β) {xs:List α} {k:Nat} (h:k<xs.length):(xs.take (k+1)).map f=(xs.take k).map f++[f xs[k]]:=by
 rw[List.take_add_one,List.getElem?_eq_getElem h,List.map_append];rfl
end
end Sh
namespace Go.Proofs.YtkfofnjfihfgkaaGreatDoor
open Go Go.RowKit Bg
def Qc (b:Bool) (w:World) (e:Ending) (w':World):Prop:=e= .returned (.bool b)∧Below w w w'
def bigV (b:iC) (A:Option Addr) (c:Nat):Value:= .agg #[bR b.sign,bQ A b.dg c]
theorem RM {l:List Int} {k:Nat} (h:∀ i,i<k→0≤l.getD i 0∧l.getD i 0≤1048575) (hx:0≤l.getD k 0∧l.getD k 0≤1048575):∀ i,i<k+1→0≤l.getD i 0∧l.getD i 0≤1048575:=by
 intro i hi;rcases Nat.lt_or_ge i k with h1|h1
 (·exact h i h1);(obtain rfl:i=k:=by omega);exact hx
theorem UW {l:List Int} (h:∀ i,i<l.length→0≤l.getD i 0∧l.getD i 0≤1048575):Ey l=true:=by
 rw[qR]
 intro d hd
 obtain⟨i,hi,rfl⟩:=List.getElem_of_mem hd
 have:=h i hi
 rwa [List.getD_eq_getElem?_getD,List.getElem?_eq_getElem hi,Option.getD_some]at this
theorem JZ {l:List Int} {k:Nat} (hk:k<l.length) (h:¬(0≤l.getD k 0∧l.getD k 0≤1048575)):Ey l=false:=by
 rw[Bool.eq_false_iff];intro hd;rw[qR]at hd;refine h ?_;rw[List.getD_eq_getElem?_getD,List.getElem?_eq_getElem hk,Option.getD_some];exact hd _ (List.getElem_mem hk)
theorem RN (b:iC) (A:Option Addr) (c:Nat) (w:World) (ha:je w A (b.dg.map iv)) (hl:b.dg.length≤1000000):Calls prog 233 #[bigV b A c] w (Qc (dx b) w):=by
 obtain⟨s,l⟩:=b;simp only[bigV]at*;go_enter func233,ntmps233;go_wp2;go_loop [12] (fun t=>∃ k:Nat,k≤l.length∧t=bR (k:Int)∧Hid (∀ i,i<k→0≤l.getD i 0∧l.getD i 0≤1048575)) (fun t=>l.length - (intOf t).toNat);(case atStart=>exact⟨0,Nat.zero_le _,rfl,fun i hi=>absurd hi (Nat.not_lt_zero _)⟩);obtain⟨k,hk,rfl,HD⟩:=hrel;have hbl:Below w w (w.alloc (.cells #[bR s,bQ A l c] 91)):=cJ _;by_cases hlt:k<l.length
 ·obtain⟨b1,off1,rfl,J0,hcell⟩:=ha.int hlt;generalize hx:l.getD k 0=x at hcell;by_cases hx0:x<0
  ·have HR:=aa (show dx ⟨s,l⟩=false by
    simp only[dx,JZ hlt (by rw[hx];omega),Bool.false_and])
   clear hx;go_wp2;go_ret;exact⟨cK HR.o.symm,hbl⟩
  by_cases hx1:1048575<x
  ·have HR:=aa (show dx ⟨s,l⟩=false by
    simp only[dx,JZ hlt (by rw[hx];omega),Bool.false_and])
   clear hx;have hx2:decide (x<0)=false:=(by simpa using hx0);go_wp2;go_ret;exact⟨cK HR.o.symm,hbl⟩
  have HN:=aa (RM HD.o (by rw[hx];omega));clear hx;have hx2:decide (x<0)=false:=(by simpa using hx0);have hx3:decide (1048575<x)=false:=(by simpa using hx1);go_wp2;go_round;(case rel=>exact⟨k+1,by omega,by go_num,HN⟩);(case measure=>simp[intOf];omega)
 (obtain rfl:k=l.length:=by omega);have HA:=aa (UW HD.o);by_cases h0:l=[]
 (·subst h0;have HR:=aa (show dx ⟨s,[]⟩=(s==0) by simp[dx,Ey]);have hz:(((([]:List Int).length:Nat):Int)==0)=true:=aj;go_wp2;go_ret;exact⟨cK HR.o.symm,hbl⟩);have hp:0<l.length:=List.length_pos_iff.2 h0;obtain⟨b1,off1,rfl,J0,hcell⟩:=ha.int (k:=l.length - 1) af;generalize hx:l.getD (l.length - 1) 0=x at hcell;have HR:=aa (show dx ⟨s,l⟩=((s==1||s==-1)&&x != 0) by
  have e1:l.isEmpty=false:=bL;have e2:l.getLastD 0=x:=by
   rw[← hx,List.getLastD_eq_getLast?,List.getLast?_eq_some_getLast h0,List.getLast_eq_getElem,List.getD_eq_getElem?_getD,List.getElem?_eq_getElem af]
  simp only[dx,HA.o,e1,e2,Bool.false_and,Bool.false_or,Bool.true_and,Bool.not_false])
 have hz:((l.length:Int)==0)=false:=(by simp;exact h0);have hi:((l.length:Int) - 1).toNat=l.length - 1:=af;clear hx;cases h1:(s==1)with
 |true=>
  go_wp2;go_ret;exact⟨cK (by rw[HR.o,h1];simp),hbl⟩
 |false=>
  cases h2:(s==-1)with
  |true=>
   go_wp2;go_ret;exact⟨cK (by rw[HR.o,h1,h2];simp),hbl⟩
  |false=>
   go_wp2;go_ret;exact⟨cK (by rw[HR.o,h1,h2];simp),hbl⟩
theorem drop_zero {l:List Nat} {n:Nat} (h:∀ d∈l.drop n,d=0) (hn:0<n) (hl:n≤l.length) (h0:l.getD (n - 1) 0=0):∀ d∈l.drop (n - 1),d=0:=by
 intro d hd;rw[List.drop_eq_getElem_cons af]at hd;rcases List.mem_cons.1 hd with e|hd
 (·rw[kU af]at h0;omega);rw[show n - 1+1=n by omega]at hd;exact h d hd
theorem qT (xs:List Nat) (A:Option Addr) (c:Nat) (w:World) (hd:gj xs) (ha:je w A (xs.map nv)) (hc:xs.length≤c) (hm:xs.length≤1000000):Calls prog 232 #[bQ A xs c] w fun e w'=>e= .returned (bQ A (gm (val xs)).length c)∧w=w':=by
 go_enter func232,ntmps232;go_wp2;go_loop [3] (fun t=>∃ n:Nat,n≤xs.length∧t=bR (n:Int)∧Hid (∀ d∈xs.drop n,d=0)) (fun t=>(intOf t).toNat);(case atStart=>exact⟨xs.length,Nat.le_refl _,rfl,by intro d hd;simp at hd⟩);obtain⟨n,hn,rfl,HZ⟩:=hrel;by_cases h0:n=0
 (·subst h0;have HR:=aa (PM hd hn HZ.o (fun h=>absurd h af));go_wp2;go_ret;exact⟨Fh (by rw[← HR.o];simp),rfl⟩);obtain⟨b,off,d,rfl,hlt,hcell,J1,HD⟩:=ha.dg hd (k:=n - 1) af;have hi:((n:Int) - 1).toNat=n - 1:=af;cases hz:((d:Int)==0)with
 |true=>
  have HR:Hid (∀ d∈xs.drop (n - 1),d=0):=by
   refine drop_zero HZ.o af hn ?_;have:=HD.o;simp at hz;omega
  go_wp2;go_round;(case rel=>exact⟨n - 1,by omega,by go_num,HR⟩);(case measure=>simp[intOf];omega)
 |false=>
  (have hz':d≠0:=fun e=>by subst e;simp at hz);have HR:=aa (PM hd hn HZ.o (fun h=>by rw[HD.o];exact hz'));clear hz';go_wp2;go_ret;exact⟨Fh (by rw[← HR.o,List.length_take];omega),rfl⟩
attribute [local go_sem] Jg
theorem Qd:(Tryz.prog.info? 3).map (fun i=>(i.zero,i.size,i.bytes))=some (some (bR 0),1,8):=by kernel_rfl
def Cx (a b:List Nat) (B:Nat) (w wr:World) (i:Nat):Prop:=
 ∃ out:List Nat,out.length=a.length+b.length∧gj out∧cH wr B 3 (out.map nv)∧val out=val (a.take i)*val b∧Below B w wr
def J2 (a b:List Nat) (B:Nat) (w wr:World) (i k c:Nat):Prop:=
 ∃ out:List Nat,out.length=a.length+b.length∧gj out∧cH wr B 3 (out.map nv)∧val out+c*1048576 ^ (i+k)=val (a.take i)*val b+a.getD i 0*(1048576 ^ i*val (b.take k))∧Below B w wr
theorem J2.step {a b:List Nat} {B:Nat} {w wr:World} {i k c d y o:Nat} {out:List Nat} (hda:gj a) (hdb:gj b) (hi:i<a.length) (hk:k<b.length) (hc:c<1048576) (h1:out.length=a.length+b.length) (h2:gj out) (h3:cH wr B 3 (out.map nv)) (h4:val out+c*1048576 ^ (i+k)=val (a.take i)*val b+a.getD i 0*(1048576 ^ i*val (b.take k))) (h5:Below B w wr) (hd:a.getD i 0=d) (hy:b.getD k 0=y) (ho:out.getD (i+k) 0=o) (n:Nat) (hn:n=o+d*y+c):n / 1048576<1048576∧J2 a b B w (wr.setCell (bS B (i+k)) (bR ((n % 1048576:Nat):Int))) i (k+1) (n / 1048576):=by
 subst hd hy ho;have hx:=hda.get i;have Bp:=hdb.get k;have hoo:=h2.get (i+k);have hm:=Rl _ _ _ _ hoo hx Bp hc;rw[← hn]at hm;refine⟨hm.2,out.set (i+k) (n % 1048576),by simpa using h1,h2.cM _ af,h3.Ze _ _,?_,h5.setCell (Nat.le_refl _) _⟩;have:=Rk out (i+k) (a.getD i 0) (b.getD k 0) c n _ af h4 hn;rw[Ur b _ i k hk];rw[← Nat.add_assoc i k 1];omega
theorem Cx.step {a b:List Nat} {B:Nat} {w wr:World} {i c o:Nat} {out:List Nat} (hda:gj a) (hdb:gj b) (hi:i<a.length) (h1:out.length=a.length+b.length) (h2:gj out) (h3:cH wr B 3 (out.map nv)) (h4:val out+c*1048576 ^ (i+b.length)=val (a.take i)*val b+a.getD i 0*(1048576 ^ i*val (b.take b.length))) (h5:Below B w wr) (ho:out.getD (i+b.length) 0=o):o+c<1048576∧Cx a b B w (wr.setCell (bS B (i+b.length)) (bR ((o+c:Nat):Int))) (i+1):=by
 subst ho;rw[List.take_of_length_le (Nat.le_refl _), ← Uq a b i hi]at h4;have hb:=Rm (i:=i+1) hda hdb hi;rw[show i+1+b.length=i+b.length+1 by omega]at hb;have:=Zc out (i+b.length) c _ af h4 hb;exact⟨this.1,out.set _ _,by simpa using h1,h2.cM _ this.1,h3.Ze _ _,this.2,h5.setCell (Nat.le_refl _) _⟩
theorem GU (a b:List Nat) (A A':Option Addr) (c c':Nat) (w:World) (hda:gj a) (hdb:gj b) (ha:je w A (a.map nv)) (hb:je w A' (b.map nv)) (hl:a.length+b.length≤1000000):Calls prog 278 #[bQ A a c,bQ A' b c'] w fun e w'=>∃ cc,e= .returned (bQ (bS w 0) (gm (val a*val b)).length cc)∧(gm (val a*val b)).length≤cc∧cc≤1000000∧tj w' w cc (val a*val b)∧Below w w w':=by
 have hmk:∀ W:World,(Instr.makeSlice 46 (bR ((a.length:Int)+(b.length:Int))) (bR ((a.length:Int)+(b.length:Int)))).run prog W= .ok (bQ (bS W 0) (a.length+b.length) (a.length+b.length)) (W.alloc (.cells ((List.replicate (a.length+b.length) (bR 0)).toArray) 3)):=fun W=>by
  have:=run_make_row' (P:=prog) 46 3 (bR 0) 8 Tryz.underlying46 Qd rfl .i64 .i64 (a.length+b.length) af af W;rw[yj,Int.natCast_add]at this;exact this
 go_enter func278,ntmps278;go_wp2;go_loopw [20] (fun t wr=>∃ i:Nat,i≤a.length∧t=bR (i:Int)∧Cx a b w w wr i) (fun t _=>a.length - (intOf t).toNat);(case atStart=>refine⟨0,Nat.zero_le _,rfl,List.replicate (a.length+b.length) 0,by simp,gj.zeros _,?_,by simp[yh,val],cJ _⟩;have:=heap_alloc_new w (.cells ((List.replicate (a.length+b.length) (bR 0)).toArray) 3);unfold cH;rw[List.map_replicate];exact this);obtain⟨i,hi,rfl,HM⟩:=hrel;by_cases hlt:i<a.length
 ·have HM0:J2 a b w w wr i 0 0:=by
   obtain⟨out,h1,h2,h3,h4,h5⟩:=HM;exact⟨out,h1,h2,h3,by simp[val,h4],h5⟩
  (have iM:Below w w wr:=by obtain⟨out,h1,h2,h3,h4,h5⟩:=HM;exact h5);obtain⟨b1,off1,d,rfl,J0,hcell1,J1,HD⟩:=(ha.bU iM).dg hda hlt;clear HM;obtain⟨wo,rfl⟩:∃ wo:World,wo=wr:=⟨_,rfl⟩;go_wp2;go_loopw [8,27] (fun t u wq=>∃ k c:Nat,k≤b.length∧c<1048576∧t=bR (c:Int)∧u=bR (k:Int)∧J2 a b w w wq i k c) (fun _ u _=>b.length - (intOf u).toNat);(case atStart=>exact⟨0,0,Nat.zero_le _,by omega,rfl,rfl,HM0⟩);obtain⟨k,cc,hk,hcc,rfl,rfl,HM⟩:=hrel;clear HM0 hmk;by_cases hkt:k<b.length
  ·obtain⟨out,h1,h2,h3,h4,h5⟩:=HM;obtain⟨b2,off2,y,rfl,hlt2,MP,RO,HY⟩:=(hb.bU h5).dg hdb hkt;have hik:i+k<out.length:=af;have hik2:i+k<a.length+b.length:=af;obtain⟨o,UX,hol,HO⟩:=h3.dg h2 hik;have hfz:=h3.frozen (i+k);have zS:(d:Int)*(y:Int)≤1099509530625:=by
    have:d*y≤1048575*1048575:=Nat.mul_le_mul af af;have e:(d:Int)*(y:Int)=((d*y:Nat):Int):=aj;omega
   have MQ:0≤(d:Int)*(y:Int):=Int.mul_nonneg af af;have H4:=aa h4;have H1:=aa h1;clear h4 h1;go_wp2;go_roundw;(case rel=>have hs:=J2.step hda hdb hlt hkt hcc H1.o h2 h3 H4.o h5 HD.o HY.o HO.o (o+d*y+cc) rfl;exact⟨k+1,(o+d*y+cc) / 1048576,by omega,hs.1,by rw[vdiv],by go_num,by rw[vmod];exact hs.2⟩);(case measure=>simp[intOf];omega)
  (obtain rfl:k=b.length:=by omega);obtain⟨out,h1,h2,h3,h4,h5⟩:=HM;have hik:i+b.length<out.length:=af;have hik2:i+b.length<a.length+b.length:=af;obtain⟨o,UX,hol,HO⟩:=h3.dg h2 hik;have hfz:=h3.frozen (i+b.length);have hsum:o+cc<1048576∧Cx a b w w (wr.setCell (bS w (i+b.length)) (bR ((o+cc:Nat):Int))) (i+1):=Cx.step hda hdb hlt h1 h2 h3 h4 h5 HO.o;have vS:=hsum.1;have HS:=aa hsum.2;clear h1 h4 hsum;go_wp2;go_roundw;(case rel=>exact⟨i+1,by omega,by go_num,by rw[← Int.natCast_add];exact HS.o⟩);(case measure=>simp[intOf];omega)
 (obtain rfl:i=a.length:=by omega);obtain⟨out,h1,h2,h3,h4,h5⟩:=HM;rw[List.take_of_length_le (Nat.le_refl _)]at h4;have H4:=aa h4;have yC:out.length=a.length+b.length:=h1;have H1:=aa h1;clear h4 h1;have ht:=qT out (bS w 0) (a.length+b.length) wr h2 h3.arr af af;rw[yC,H4.o]at ht;have HT:=aa ht;clear ht yC;go_wp2_with (go_at_call 232;refine HT.o.mono ?_;rintro e w' ⟨rfl,rfl⟩);go_ret;have hle:=ud h2;rw[H4.o,H1.o]at hle;refine⟨a.length+b.length,rfl,hle,hl,?_,h5⟩;have:=tj.of h2 h3;rw[H1.o,H4.o]at this;exact this
def Bq (a:List Nat) (d B:Nat) (w wr:World) (i r:Nat):Prop:=
 ∃ out:List Nat,out.length=a.length∧gj out∧cH wr B 3 (out.map nv)∧val (out.drop i)*d+r=val (a.drop i)∧Below B w wr
theorem Bq.step {a out:List Nat} {d B:Nat} {w wr:World} {i r x:Nat} (hda:gj a) (hd:d<1048577) (hi:i<a.length) (hr:r<d) (h1:out.length=a.length) (h2:gj out) (h3:cH wr B 3 (out.map nv)) (h4:val (out.drop (i+1))*d+r=val (a.drop (i+1))) (h5:Below B w wr) (hx:a.getD i 0=x):(r*1048576+x) / d<1048576∧Bq a d B w (wr.setCell (bS B i) (bR (((r*1048576+x) / d:Nat):Int))) i ((r*1048576+x) % d):=by
 subst hx;have hs:=Jb r d (a.getD i 0) hr hd (hda.get i);exact⟨hs.1,out.set i _,by simpa using h1,h2.cM _ hs.1,h3.Ze _ _,Mo a out i d r hi h1 hr h4,h5.setCell (Nat.le_refl _) _⟩
theorem Fw (a:List Nat) (d:Nat) (A:Option Addr) (c:Nat) (w:World) (hda:gj a) (ZF:0<d) (hd:d<1048577) (ha:je w A (a.map nv)) (hl:a.length≤1000000):Calls prog 289 #[bQ A a c,bR (d:Int)] w fun e w'=>∃ cc,e= .returned (.tuple #[bQ (bS w 0) (gm (val a / d)).length cc,bR ((val a % d:Nat):Int)])∧(gm (val a / d)).length≤cc∧cc≤1000000∧tj w' w cc (val a / d)∧Below w w w':=by
 have hmk:∀ W:World,(Instr.makeSlice 46 (bR ((a.length:Int))) (bR (a.length:Int))).run prog W= .ok (bQ (bS W 0) a a) (W.alloc (.cells ((List.replicate a.length (bR 0)).toArray) 3)):=fun W=>by
  have:=run_make_row' (P:=prog) 46 3 (bR 0) 8 Tryz.underlying46 Qd rfl .i64 .i64 a.length af af W;rw[yj]at this;exact this
 go_enter func289,ntmps289;go_wp2;go_loopw [7,8] (fun t u wr=>∃ k r:Nat,k≤a.length∧r<d∧t=bR (r:Int)∧u=bR ((k:Int) - 1)∧Bq a d w w wr k r) (fun _ u _=>(intOf u+1).toNat);(case atStart=>refine⟨a.length,0,Nat.le_refl _,ZF,rfl,rfl,List.replicate a.length 0,by simp,gj.zeros _,?_,by simp[val],cJ _⟩;have:=heap_alloc_new w (.cells ((List.replicate a.length (bR 0)).toArray) 3);unfold cH;rw[List.map_replicate];exact this);obtain⟨k,r,hk,hr,rfl,rfl,out,h1,h2,h3,h4,h5⟩:=hrel;clear hmk;by_cases h0:k=0
 (·subst h0;have ht:=qT out (bS w 0) a.length wr h2 h3.arr af af;simp only[List.drop_zero]at h4;have he:=Ff (val a) (val out) d r hr h4;rw[h1,he.1]at ht;have HT:=aa ht;have HE:=aa he;have H1:=aa h1;clear ht he h4 h1;have hneg:decide ((0:Int)≤((0:Nat):Int) - 1)=false:=ag;go_wp2_with (go_at_call 232;refine HT.o.mono ?_;rintro e w' ⟨rfl,rfl⟩);go_ret2;have hle:=ud h2;rw[HE.o.1,H1.o]at hle;refine⟨a.length,Zf rfl (int_eq (by rw[← HE.o.2])),hle,hl,?_,h5⟩;have:=tj.of h2 h3;rw[H1.o,HE.o.1]at this;exact this);obtain⟨i,rfl⟩:∃ i,k=i+1:=⟨k - 1,by omega⟩;obtain⟨b1,off1,x,rfl,J0,hcell1,hxl,HX⟩:=(ha.bU h5).dg hda (k:=i) af;have hik:i<out.length:=af;obtain⟨o,UX,hol,HO⟩:=h3.dg h2 hik;have hfz:=h3.frozen i;have HS:=aa (Bq.step hda hd af hr h1 h2 h3 h4 h5 HX.o);have YF:=Jh r x af hxl;have H1:=aa h1;have H4:=aa h4;clear h1 h4;go_wp2;go_roundw;(case rel=>exact⟨i,(r*1048576+x) % d,by omega,Nat.mod_lt _ ZF,by rw[smod],rfl,by rw[sdiv];exact HS.o.2⟩);(case measure=>simp[intOf])
attribute [local go_sem] Jg
def UY (pre post:List Value) (u v:List Nat) (gs g:Nat) (w wr:World) (i b:Nat):Prop:=
 ∃ u1:List Nat,u1.length=u.length∧gj u1∧Mt wr g pre u1 post∧val u1+gs*val (v.take i)=val u+b*1048576 ^ i∧w.grownBy wr (some g)
def UZ (pre post:List Value) (u1 v:List Nat) (g:Nat) (w wr:World) (i c:Nat):Prop:=
 ∃ u2:List Nat,u2.length=u1.length∧gj u2∧Mt wr g pre u2 post∧val u2+c*1048576 ^ i=val u1+val (v.take i)∧w.grownBy wr (some g)
theorem UY.step {pre post:List Value} {u v u1:List Nat} {gs g:Nat} {w wr:World} {i b x y:Nat} (hv:gj v) (hg:gs<1048576) (hi:i<u.length) (hb:b<1048576) (h1:u1.length=u.length) (h2:gj u1) (h3:Mt wr g pre u1 post) (h4:val u1+gs*val (v.take i)=val u+b*1048576 ^ i) (h5:w.grownBy wr (some g)) (hx:u1.getD i 0=x) (hy:v.getD i 0=y) (n:Int) (hn:n=(x:Int) - b - (gs:Int)*(y:Int)):∃ b':Nat,b'<1048576∧-(n / 1048576)=(b':Int)∧UY pre post u v gs g w (wr.setCell (bS g (pre.length+i)) (bR (n % 1048576))) (i+1) b':=by
 subst hx hy;have RO:=hv.get i;have hs:=Jc u1 i gs (v.getD i 0) b _ af h2 hb hg RO _ h4 n (by rw[hn];simp);obtain⟨p1,p2,p3,p4,p5⟩:=hs;refine⟨(-(n / 1048576)).toNat,p3,by omega,u1.set i (n % 1048576).toNat,by simpa using h1,h2.cM _ p4,?_,?_,fh h5 _ _⟩
 (·have:=h3.cM (i:=i) af (n % 1048576).toNat;rw[show(((n % 1048576).toNat:Nat):Int)=n % 1048576 by omega]at this;exact this);rw[← p5];congr 1;rcases Nat.lt_or_ge i v.length with hlt|hge
 (·rw[eG v i hlt,Nat.mul_add]);rw[List.take_of_length_le (show v.length≤i+1 by omega),List.take_of_length_le hge];simp[hge]
theorem UZ.step {pre post:List Value} {u1 v u2:List Nat} {g:Nat} {w wr:World} {i c x y:Nat} (hv:gj v) (hi:i<u1.length) (hc:c≤1) (h1:u2.length=u1.length) (h2:gj u2) (h3:Mt wr g pre u2 post) (h4:val u2+c*1048576 ^ i=val u1+val (v.take i)) (h5:w.grownBy wr (some g)) (hx:u2.getD i 0=x) (hy:v.getD i 0=y) (n:Nat) (hn:n=c+x+y):n / 1048576≤1∧UZ pre post u1 v g w (wr.setCell (bS g (pre.length+i)) (bR ((n % 1048576:Nat):Int))) (i+1) (n / 1048576):=by
 subst hx hy;have hs:=Mp u2 i (v.getD i 0) c _ af h2 hc (hv.get i) h4 n hn;refine⟨hs.1,u2.set i (n % 1048576),by simpa using h1,h2.cM _ af,h3.cM af _,?_,fh h5 _ _⟩;rw[hs.2,Nat.add_assoc];congr 1;rcases Nat.lt_or_ge i v.length with hlt|hge
 (·rw[eG v i hlt]);rw[List.take_of_length_le (show v.length≤i+1 by omega),List.take_of_length_le hge];simp[hge]
def vA (pre post:List Value) (u v:List Nat) (gs g:Nat) (w:World) (e:Ending) (w':World):Prop:=
 ∃ u':List Nat,u'.length=u.length∧gj u'∧val u'=val u - (if gs*val v≤val u then gs else gs - 1)*val v∧e= .returned (bR (((if gs*val v≤val u then gs else gs - 1):Nat):Int))∧Mt w' g pre u' post∧w.grownBy w' (some g)
theorem MR (pre post:List Value) (u v:List Nat) (gs g cap:Nat) (A:Option Addr) (c:Nat) (w:World) (hu:gj u) (hv:gj v) (hvu:v.length≤u.length) (hl:u.length≤1000000) (hg:gs<1048576) (hw:Mt w g pre u post) (ha:je w A (v.map nv)) (hne:∀ b o,A=bS b o→b≠g) (hq:gs=0∨(gs - 1)*val v≤val u):Calls prog 290 #[bQ (bS g pre.length) u cap,bQ A v c,bR (gs:Int)] w (vA pre post u v gs g w):=by
 go_enter func290,ntmps290;go_wp2;go_loopw [7,14] (fun t s wr=>∃ i b:Nat,i≤u.length∧b<1048576∧t=bR (b:Int)∧s=bR (i:Int)∧UY pre post u v gs g w wr i b) (fun _ s _=>u.length - (intOf s).toNat);(case atStart=>exact⟨0,0,Nat.zero_le _,by omega,rfl,rfl,u,rfl,hu,hw,by simp[val],World.grownBy.refl _ _⟩);obtain⟨i,b,hi,hb,rfl,rfl,u1,h1,h2,h3,h4,h5⟩:=hrel;by_cases hlt:i<u.length
 ·obtain⟨x,hcell,hxl,HX⟩:=h3.dg h2 (i:=i) af;have hfz:=h3.frozen (pre.length+i);by_cases hiv:i<v.length
  ·obtain⟨b2,off2,y,rfl,hlt2,MP,RO,HY⟩:=(ha.grown h5 (fun b o e h=>hne b o e (by injection h))).dg hv hiv;have HS:=aa (fun n hn=>UY.step hv hg hlt hb h1 h2 h3 h4 h5 HX.o HY.o n hn);have zS:(gs:Int)*(y:Int)≤1099509530625:=by
    have:gs*y≤1048575*1048575:=Nat.mul_le_mul af af;have e:(gs:Int)*(y:Int)=((gs*y:Nat):Int):=aj;omega
   have MQ:0≤(gs:Int)*(y:Int):=Int.mul_nonneg af af;clear h1 h4;go_wp2;go_roundw;(case rel=>obtain⟨b',hb',e1,hS⟩:=HS.o _ rfl;exact⟨i+1,b',by omega,hb',by rw[e1],by go_num,hS⟩);(case measure=>simp[intOf];omega)
  (have hy:v.getD i 0=0:=by rw[List.getD_eq_getElem?_getD,List.getElem?_eq_none af];rfl);have HS:=aa (fun n hn=>UY.step hv hg hlt hb h1 h2 h3 h4 h5 HX.o hy n hn);clear h1 h4 hy;go_wp2;go_roundw;(case rel=>obtain⟨b',hb',e1,hS⟩:=HS.o ((x:Int) - b) aj;exact⟨i+1,b',by omega,hb',by rw[e1],by go_num,hS⟩);(case measure=>simp[intOf];omega)
 (obtain rfl:i=u.length:=by omega);rw[List.take_of_length_le hvu]at h4;cases hb0:((b:Int)==0)with
 |true=>
  have e0:b=0:=(by simpa using hb0);have HL:=aa (Mq (v:=v) (g:=gs) (U:=val u) (b:=b) h2 (by rw[h1];exact h4) e0);have H1:=aa h1;clear h4 h1 e0;go_wp2;go_ret;exact⟨u1,H1.o,h2,by rw[if_pos HL.o.1];exact HL.o.2,by rw[if_pos HL.o.1];rfl,h3,h5⟩
 |false=>
  (have hbn:b≠0:=fun e=>by subst e;simp at hb0);have hgs:0<gs:=by
   rcases Nat.eq_zero_or_pos gs with e|e
   (·subst e;exfalso;have EK:=jT h2;rw[h1]at EK;have:=Nat.mul_le_mul_right (1048576 ^ u.length) (show 1≤b by omega);omega);exact e
  have HN:=aa hbn;have H4:=aa h4;have H1:=aa h1;clear h4 h1 hbn;obtain⟨wo,rfl⟩:∃ wo:World,wo=wr:=⟨_,rfl⟩;go_wp2;go_loopw [10,49] (fun t s wr=>∃ i c:Nat,i≤u.length∧c≤1∧t=bR (c:Int)∧s=bR (i:Int)∧UZ pre post u1 v g w wr i c) (fun _ s _=>u.length - (intOf s).toNat);(case atStart=>exact⟨0,0,Nat.zero_le _,by omega,rfl,rfl,u1,rfl,h2,h3,by simp[val],h5⟩);obtain⟨i,c1,hi,hc1,rfl,rfl,u2,k1,k2,k3,k4,k5⟩:=hrel;have LY:u2.length=u.length:=k1.trans H1.o;by_cases hlt:i<u.length
  ·obtain⟨x,hcell,hxl,HX⟩:=k3.dg k2 (i:=i) af;have hfz:=k3.frozen (pre.length+i);by_cases hiv:i<v.length
   ·obtain⟨b2,off2,y,rfl,hlt2,MP,RO,HY⟩:=(ha.grown k5 (fun b o e h=>hne b o e (by injection h))).dg hv hiv;have HS:=aa (fun n hn=>UZ.step hv af hc1 k1 k2 k3 k4 k5 HX.o HY.o n hn);clear k1 k4 LY;go_wp2;go_roundw;case rel=>
     have hS:=HS.o (c1+x+y) rfl;exact⟨i+1,(c1+x+y) / 1048576,by omega,hS.1,int_eq af,by go_num,by
      have:=hS.2;rw[show(((c1+x+y) % 1048576:Nat):Int)=((c1:Int)+x+y) % 1048576 by omega]at this;exact this⟩
    (case measure=>simp[intOf];omega)
   (have hy:v.getD i 0=0:=by rw[List.getD_eq_getElem?_getD,List.getElem?_eq_none af];rfl);have HS:=aa (fun n hn=>UZ.step hv af hc1 k1 k2 k3 k4 k5 HX.o hy n hn);clear k1 k4 LY hy;go_wp2;go_roundw;case rel=>
    have hS:=HS.o (c1+x) rfl;exact⟨i+1,(c1+x) / 1048576,by omega,hS.1,int_eq af,by go_num,by
     have:=hS.2;rw[show(((c1+x) % 1048576:Nat):Int)=((c1:Int)+x) % 1048576 by omega]at this;exact this⟩
   (case measure=>simp[intOf];omega)
  (obtain rfl:i=u.length:=by omega);rw[List.take_of_length_le hvu]at k4;have HH:=aa (Jd (u:=u1) (u2:=u2) (g:=gs) (U:=val u) (V:=val v) (b:=b) (c:=c1) h2 k2 k1 (by rw[H1.o];exact H4.o) HN.o (by rw[H1.o];exact k4) (by rw[H1.o];exact jT hu) hq);have HL:=aa LY;clear k1 k4 LY;go_wp2;go_ret;(have hn:¬gs*val v≤val u:=by have:=HH.o.1;omega);exact⟨u2,HL.o,k2,by rw[if_neg hn];exact HH.o.2.2,by rw[if_neg hn];exact Bo af,k3,k5⟩
theorem Qe (x y:Int) (w:World):Calls prog 293 #[bR x,bR y] w fun e w'=>e= .returned (bR (sgn x y))∧w=w':=by
 unfold sgn;rcases Int.lt_trichotomy x y with h|h|h
 (·have h2:¬y<x:=af;rw[if_pos h];go_enter func293,ntmps293;go_wp2;go_ret;exact⟨rfl,rfl⟩)
 (·subst h;rw[if_neg af,if_pos rfl];have h2:¬x<x:=af;go_enter func293,ntmps293;go_wp2;go_ret;exact⟨rfl,rfl⟩);have h2:¬x<y:=af;rw[if_neg h2,if_neg af];go_enter func293,ntmps293;go_wp2;go_ret;exact⟨rfl,rfl⟩
theorem tH (a b:List Nat) (A A':Option Addr) (c c':Nat) (w:World) (hca:Canon a) (hcb:Canon b) (ha:je w A (a.map nv)) (hb:je w A' (b.map nv)) (hl:a.length≤1000000) (hl':b.length≤1000000):Calls prog 288 #[bQ A a c,bQ A' b c'] w fun e w'=>e= .returned (bR (wm (val a) (val b)))∧∃ n,w'=w.drewN n:=by
 by_cases hlen:a.length=b.length
 ·have hbn:((a.length:Int) != (b.length:Int))=false:=aq;have HL:=aa hlen;have hle:a.length≤b.length:=af;have hge:b.length≤a.length:=af;clear hlen;go_enter func288,ntmps288;go_wp2;go_loopw [5] (fun u wr=>∃ k n:Nat,k≤a.length∧u=bR ((k:Int) - 1)∧wr=w.drewN n∧Hid (a.drop k=b.drop k)) (fun u _=>(intOf u+1).toNat);(case atStart=>exact⟨a.length,0,Nat.le_refl _,rfl,rfl,by show a.drop a.length=b.drop a.length;rw[List.drop_of_length_le (Nat.le_refl _),List.drop_of_length_le af]⟩);obtain⟨k,n,hk,rfl,rfl,HD⟩:=hrel;by_cases h0:k=0
  (·subst h0;have HE:=aa (show wm (val a) (val b)=0 from Gp (by have:=HD.o;simp at this;rw[this]));have hneg:decide ((0:Int)≤((0:Nat):Int) - 1)=false:=ag;go_wp2;go_ret;exact⟨Bo HE.o.symm,n,rfl⟩);obtain⟨i,rfl⟩:∃ i,k=i+1:=⟨k - 1,by omega⟩;obtain⟨b1,off1,x,rfl,J0,hcell1,hxl,HX⟩:=ha.dg hca.1 (k:=i) af;obtain⟨b2,off2,y,rfl,hlt2,MP,RO,HY⟩:=hb.dg hcb.1 (k:=i) af;have e5:(((i+1:Nat):Int) - 1)=(i:Int):=af;rw[e5];clear e5;have hi1:(i:Int)<(a.length:Int):=af;have hi2:(i:Int)<(b.length:Int):=af;have ug:0≤(i:Int):=af;by_cases hxy:x=y
  ·subst hxy;have HN:=aa (show a.drop i=b.drop i by
    have e1:=HX.o;have e2:=HY.o;have e3:=HD.o;have e4:=HL.o;rw[List.drop_eq_getElem_cons (show i<a.length by omega),List.drop_eq_getElem_cons (show i<b.length by omega),e3, ← kU (l:=a) af, ← kU (l:=b) af,e1,e2])
   have hne:((x:Int) != (x:Int))=false:=aj;go_wp2;go_quiet (fail);go_wp2;go_roundw;(case rel=>exact⟨i,n+nq,by omega,rfl,rfl,HN⟩);(case measure=>simp[intOf])
  have hne:((x:Int) != (y:Int))=true:=aq;have hcmp:=fun w=>Qe (x:Int) (y:Int) w;have HE:=aa (show sgn (x:Int) (y:Int)=wm (val a) (val b) by
   have e1:=HX.o;have e2:=HY.o;have e3:=HD.o;have e4:=HL.o;unfold sgn;rcases Nat.lt_or_ge x y with h|h
   (·rw[if_pos af,Gn (Up hca.1 e4 i af e3 af)]);rw[if_neg af,if_neg af,Bn (Up hcb.1 e4.symm i af e3.symm af)])
  have HC:=aa hcmp;clear hcmp;go_wp2;go_quiet (fail);go_wp2;go_quiet ((go_at_call 293;exact BS (HC.o _)));go_wp2;go_ret;exact⟨Bo HE.o,_,by rw[World.drewN_drewN,World.drewN_drewN]⟩
 have hbn:((a.length:Int) != (b.length:Int))=true:=aq;have HE:=aa (show sgn (a.length:Int) (b.length:Int)=wm (val a) (val b) by
  unfold sgn;rcases Nat.lt_or_ge a.length b.length with h|h
  (·rw[if_pos af,Gn (Uo hca.1 hcb h)]);rw[if_neg af,if_neg af,Bn (Uo hcb.1 hca af)])
 clear hlen;have HC:=aa (fun w=>Qe (a.length:Int) (b.length:Int) w);go_enter func288,ntmps288;go_wp2_with (go_at_call 293;refine(HC.o _).mono ?_;rintro e w' ⟨rfl,rfl⟩);go_ret;exact⟨Bo HE.o,0,rfl⟩
end Go.Proofs.YtkfofnjfihfgkaaGreatDoor
namespace Go.Proofs.YtkfofnjfihfgkaaGreatDoor
open Go Go.RowKit Bg Go.Proofs
theorem Qf:(Tryz.prog.info? 3).map (fun i=>(i.zero,i.size,i.bytes))=some (some (bR 0),1,8):=by kernel_rfl
theorem RP {w:World} {A:Option Addr} {xs:List Value} (h:je w A xs):Reads w w 1 A xs.length xs:=by
 refine⟨by simp,fun hn=>?_⟩;obtain⟨b,off,e,hlt,hc⟩:=h (fun e=>by subst e;simp at hn);refine⟨_,e,hlt,fun j u hu=>?_⟩;have:=hc j u hu;unfold Addr.add;split
 (·(next h0=>subst h0;exact this));exact this
theorem Qg {w:World} {base:Nat} {A:Option Addr} {e:TypeId} {n c:Nat} {xs:List Value} (h:w.ownsRow base e 1 (bQ A n c) n xs):je w A xs∧n≤c∧∀ b o,A=bS b o→base≤b:=by
 obtain⟨h0,h1⟩:=h;rcases h1 with⟨h1,h2⟩|⟨g,cap,cur,h1,h2,h3,h4,h5,h6,h7⟩
 (·injection h1 with e1 e2 e3;subst e1 e2 e3;have:xs=[]:=List.eq_nil_of_length_eq_zero af;subst this;exact⟨je.nil,Nat.le_refl _,fun b o h=>by cases h⟩);injection h1 with e1 e2 e3;subst e1 e3;refine⟨fun _=>⟨g,0,rfl,(Array.getElem?_eq_some_iff.1 h3).1,fun j v hv=>?_⟩,h4,fun b o h=>by injection h with h;injection h with h;omega⟩;rw[Nat.zero_add,cell_of_row w g j cur e (0,0) h3];rw[← h7,List.getElem?_take]at hv;split at hv
 (·simpa using hv);cases hv
def Fx (xs:List Value) (w:World) (e:Ending) (w':World):Prop:=
 ∃ A' c',e= .returned (bQ A' xs c')∧je w' A' xs∧xs.length≤c'∧(∀ b o,A'=bS b o→w.heap.size≤b)∧Below w w w'
theorem Fy (xs:List Value) (A:Option Addr) (c:Nat) (w:World) (h1:∀ u∈xs,u.oneCell'=true) (ha:je w A xs) (hl:xs.length≤1000000):Calls prog 272 #[bQ A xs c] w (Fx xs w):=by
 have q:∀ (w:World) (a:Option Addr) (n c n' c':Nat),(binOp .eql 46 (bQ a n c) (bQ none n' c')).run prog w= .ok (.bool a.isNone) w:=fun w a n c n' c'=>Lib.run_eql_slice_nil w _ _ a n c n' c' Tryz.underlying46;rcases A with _|ad
 ·have hx:xs=[]:=by
   rcases xs with _|⟨x,r⟩
   (·rfl);obtain⟨b,off,e,_⟩:=ha aj;cases e
  subst hx;simp only[List.length_nil];go_enter func272,ntmps272;go_wp2;go_ret;exact⟨none,0,rfl,je.nil,Nat.zero_le _,fun b o h=>bA,Below.refl _ _⟩
 obtain⟨i0,ug,hz0,hz1,hz2⟩:=info_parts Qf;have H1:=aa h1;clear h1;go_enter func272,ntmps272;go_wp2_with (at_builtin;refine eZ _ rfl (.tmp 5) (.tmp 6) _ rfl w 3 i0 _ 1 8 Tryz.underlying46 ug hz0 hz1 hz2 rfl af _ 0 [] rfl ?c1 (w+1) (some ad) xs.length c xs rfl ?c2 H1.o ?c3 ?c4 ?c5 ?_);(case c1=>exact⟨by simp,.inr ⟨w.heap.size,0,#[],rfl,Nat.le_refl _,heap_alloc_new w _,Nat.le_refl _,by unfold maxLen;omega,by simp,by simp⟩⟩);(case c2=>exact((RP ha).alloc (Nat.le_refl _) _).more af);(case c3=>unfold maxLen;omega);(case c4=>omega);(case c5=>simp);intro v1 w1 hown hg _;have hb:Below w w w1:=(cJ _).grown hg aj (by simp[Value.ownBlock]);clear q;go_wp2;go_ret;obtain⟨A',c',rfl⟩:∃ A' c',v1=bQ A' xs c':=by
  rcases hown.2 with⟨h,hn⟩|⟨g,cap,cur,h,_⟩
  (·exact⟨none,0,by rw[h,hn]⟩);exact⟨_,_,h⟩
 have:=Qg hown;exact⟨A',c',rfl,this.1,this.2.1,this.2.2,hb⟩
def vB (B:Nat) (w:World) (v:Value) (n:Nat):Prop:=∃ A c,v=bQ A (gm n).length c∧(gm n).length≤c∧je w A ((gm n).map nv)∧∀ b o,A=bS b o→B≤b
theorem vB.bU {B:Nat} {w w':World} {v:Value} {n:Nat} (h:vB B w v n) (hb:Below w w w'):vB B w' v n:=by
 obtain⟨A,c,h1,h2,h3,h4⟩:=h;exact⟨A,c,h1,h2,h3.bU hb,h4⟩
def uk (a b:Nat) (w:World) (e:Ending) (w':World):Prop:=
 ∃ q r,e= .returned (.tuple #[q,r])∧vB w w' q (a / b)∧vB w w' r (a % b)∧Below w w w'
theorem U0 (l:List Nat):∀ u∈l.map nv,u.oneCell'=true:=by
 intro u hu;obtain⟨d,_,rfl⟩:=List.mem_map.1 hu;rfl
theorem GV (a b:List Nat) (A A':Option Addr) (c c':Nat) (w:World) (hca:Canon a) (hcb:Canon b) (ha:je w A (a.map nv)) (hb:je w A' (b.map nv)) (hl:a.length≤1000000) (hl':b.length≤1000000) (hlt:val a<val b):Calls prog 274 #[bQ A a c,bQ A' b c'] w (uk (val a) (val b) w):=by
 have hcmp:=tH a b A A' c c' w hca hcb ha hb hl hl';rw[Gn hlt]at hcmp;have HC:=aa hcmp;have HQ:=aa (show val a / val b=0 from Nat.div_eq_of_lt hlt);have HR:=aa (show val a % val b=val a from Nat.mod_eq_of_lt hlt);clear hcmp;go_enter func274,ntmps274;go_wp2_with fail;refine HC.o.mono ?_;rintro e w' ⟨rfl,n,rfl⟩;go_wp2_with fail;have HK:=aa (Fy (a.map nv) A c (w.drewN n) (U0 a) (ha.drewN n) (by simpa using hl));have ld:Hid (Calls prog 272 #[bQ A a c] (w.drewN n) (Fx (a.map nv) (w.drewN n))):=by
  have:=HK.o;rw[List.length_map]at this;exact this
 clear HK;refine ld.o.mono ?_;rintro e w1 ⟨A1,c1,rfl,ZG,hl1,jH,hb1⟩;go_wp2;go_ret2;have e1:gm (val a)=a:=(kN hca).symm;refine⟨_,_,rfl,?_,?_,mW hb1⟩
 (·rw[HQ.o];exact⟨none,0,by rw[gp];rfl,by rw[gp];simp,by rw[gp];exact je.nil,fun b o h=>by cases h⟩);rw[HR.o];exact⟨A1,c1,by rw[e1];simp,by rw[e1];simpa using hl1,by rw[e1];exact ZG,jH⟩
theorem J3 (a:List Nat) (d:Nat) (A A':Option Addr) (c c':Nat) (w:World) (hca:Canon a) (ZF:0<d) (hd:d<1048576) (ha:je w A (a.map nv)) (hb:je w A' ([d].map nv)) (hl:a.length≤1000000) (hle:d≤val a):Calls prog 274 #[bQ A a c,bQ A' 1 c'] w (uk (val a) d w):=by
 have hv:val [d]=d:=(by simp[val]);have hcb:Canon [d]:=⟨gj.cons hd gj.nil,fun _=>by simp;omega⟩;have hcmp:=tH a [d] A A' c c' w hca hcb ha hb hl aj;rw[hv]at hcmp;obtain⟨b1,off1,y,rfl,J0,hcell1,RO,HY⟩:=hb.dg hcb.1 (k:=0) aj;(obtain rfl:d=y:=by simpa using HY.o);simp only[Nat.add_zero]at hcell1;have hge:¬wm (val a) d<0:=by
  rcases Nat.lt_or_ge d (val a)with h|h
  (·rw[Bn h];omega);rw[Gp af];omega
 have HC:=aa hcmp;have HG:=aa hge;clear hcmp hge hv HY;go_enter func274,ntmps274;go_wp2_with fail;refine HC.o.mono ?_;rintro e w' ⟨rfl,n,rfl⟩;have hge:=HG.o;generalize wm (val a) d=z at hge;clear HC HG;have hge2:decide (z<0)=false:=(by simpa using hge);go_wp2_with fail;have HS:=aa (Fw a d A c (w.drewN n) hca.1 ZF af (ha.drewN n) hl);refine HS.o.mono ?_;rintro e w1 ⟨cc,rfl,hcc,hcm,hown,hb1⟩;clear HS;have hb1':=mW hb1;go_wp2_with fail;have HT:=aa (qT [val a % d] (bS w1 0) 1 (w1.alloc (.cells #[bR ((val a % d:Nat):Int)] 3)) (gj.cons (by have:=Nat.mod_lt (val a) ZF;omega) gj.nil) (cH.arr (t:=3) (heap_alloc_new w1 _)) (Nat.le_refl _) aj);refine HT.o.mono ?_;rintro e w2 ⟨rfl,rfl⟩;go_wp2;go_ret2;have hval:val [val a % d]=val a % d:=(by simp[val]);refine⟨_,_,rfl,?_,?_,hb1'.alloc hb1'.size _⟩
 (·exact⟨_,cc,rfl,hcc,hown.arr.alloc _,fun b o h=>by injection h with h;injection h with h;subst h;exact Nat.le_refl _⟩);refine⟨_,1,by rw[hval];rfl,?_,?_,fun b o h=>by injection h with h;injection h with h;subst h;exact hb1'.size⟩
 (·have:=ud (l:=[val a % d]) (gj.cons (by have:=Nat.mod_lt (val a) ZF;omega) gj.nil);rw[hval]at this;exact this);have h2:=(cH.arr (t:=3) (heap_alloc_new w1 (.cells #[bR ((val a % d:Nat):Int)] 3)):je _ _ ([val a % d].map nv)).oT (gm (val [val a % d])).length;rw[← List.map_take, ← wk (gj.cons (by have:=Nat.mod_lt (val a) ZF;omega) gj.nil),hval]at h2;exact h2
end Go.Proofs.YtkfofnjfihfgkaaGreatDoor
namespace Bg
structure Pack (X V top t0 v1 v0:Nat):Prop where
 start:X / V≤top / v1
 more:∀ g rs,g*v1+rs=top→rs*1048576+t0<g*v0→X / V<g
 stop:∀ g rs,g*v1+rs=top→g<1048576→(1048576≤rs∨g*v0≤rs*1048576+t0)→(g - 1)*V≤X
 small:X / V<1048576
 pos:0<V
theorem AL.pack {u v:List Nat} {j n t2 t1 t0 v1 v0 top:Nat} (h:AL u v j n) (h2:u.getD (j+v.length) 0=t2) (h1:u.getD (j+v.length - 1) 0=t1) (h0:u.getD (j+v.length - 2) 0=t0) (g1:v.getD (v.length - 1) 0=v1) (g0:v.getD (v.length - 2) 0=v0) (ht:top=t2*1048576+t1):Pack (val (u.drop j)) (val v) top t0 v1 v0:=by
 have hn:=h.hn;subst h2 h1 h0 g1 g0 ht;have e2:j+v.length=j+n+2:=af;have e1:j+v.length - 1=j+n+1:=af;have e0:j+v.length - 2=j+n:=af;have k1:v.length - 1=n+1:=af;have k0:v.length - 2=n:=af;rw[e2,k1,k0,show j+n+2 - 1=j+n+1 by omega,show j+n+2 - 2=j+n by omega];exact⟨h.start,fun g rs a b=>h.more a b,fun g rs a b c=>h.stop a b c,h.quot,h.pos⟩
theorem Pack.dec {X V top t0 v1 v0 g rs:Nat} (h:Pack X V top t0 v1 v0) (hg:g*v1+rs=top) (hq:X / V≤g) (hx:1048576≤g∨rs*1048576+t0<g*v0):0<g∧(g - 1)*v1+(rs+v1)=top∧X / V≤g - 1∧rs+v1≤top:=by
 have hsm:=h.small;have hmo:=h.more g rs hg;clear h;generalize X / V=q at*;have hlt:q<g:=by
  rcases hx with h1|h1
  (·omega);exact hmo h1
 have hpos:0<g:=af;have e:g*v1=(g - 1)*v1+v1:=by
  (conv=>lhs;rw[show g=(g - 1)+1 by omega,Nat.add_mul,Nat.one_mul])
 refine⟨hpos,by omega,by omega,by omega⟩
theorem Pack.first {X V top t0 v1 v0:Nat} (h:Pack X V top t0 v1 v0) (hv:0<v1):top / v1*v1+top % v1=top∧X / V≤top / v1∧top / v1≤top∧top % v1≤top:=by
 refine⟨?_,h.start,Nat.div_le_self _ _,Nat.mod_le _ _⟩;have:=Nat.div_add_mod top v1;rw[Nat.mul_comm]at this;exact this
end Bg
