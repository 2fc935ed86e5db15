/- Parts of the proof, packed (Idx to Bulk); each theorem bears its own conditions. -/
import Derived.Test.YtkfofnjfihfgkaaGreatDoorPz03
set_option linter.unusedVariables false
set_option linter.unusedSimpArgs false
set_option maxRecDepth 100000
set_option maxHeartbeats 8000000
open Go.Proofs.Tryz
open Go.Lib renaming hid → aa
theorem aK {p:Prop} (h:p:=by simpa using h1):p:=h
theorem a_ {p:Prop} (h:p:=by unfold maxLen at hbig;omega):p:=h
theorem bB {p:Prop} (h:p:=by simpa using hj):p:=h
theorem aT {p:Prop} (h:p:=by unfold maxLen;omega):p:=h
theorem ax {p:Prop} (h:p:=by simp[go_sem]):p:=h
namespace Go.Proofs.YtkfofnjfihfgkaaGreatDoor
open Go Go.RowKit Go.Proofs Sh Go.Shelf
section
def jN {α:Type} (P:Program) (g:Nat) (lb:Array Value) (R:Rel α) (p:α→Bool) (xs:List α) (w:World):Prop:=
 ∀ (W:World) (cs:List Value) (x:α),x∈xs→R.is W Any cs x→Below w w W→Calls P g (#[.agg cs.toArray]++lb) W fun e w'=>e= .returned (.bool (p x))∧Below W W w'
def rU {α:Type} (p:α→Bool) (xs:List α):Int:=match xs.findIdx? p with|some k=>(k:Int)|none=>-1
theorem UK {α:Type} (p:α→Bool) (xs:List α):xs.any p=decide (0≤rU p xs):=by
 unfold rU;cases h:xs.findIdx? p with
 |none=>
  rw[List.findIdx?_eq_none_iff]at h;(have:xs.any p=false:=by rw[List.any_eq_false];intro x hx;rw[h x hx];simp);rw[this];simp
 |some k=>
  rw[List.findIdx?_eq_some_iff_getElem]at h;obtain⟨hk,hp,_⟩:=h;have:xs.any p=true:=List.any_eq_true.2 ⟨xs[k],List.getElem_mem hk,hp⟩;rw[this];simp
theorem wP {α:Type} (p:α→Bool) (y:α):∀ (xs:List α) (n:Nat),Lib.idxByFrom (fun _ y=>p y) y xs n=match xs.findIdx? p with|some k=>((n+k:Nat):Int)|none=>-1
 |[],n=>rfl
 |a :: l,n=>by
  unfold Lib.idxByFrom;rw[List.findIdx?_cons];by_cases h:p a=true
  (·simp[h]);have ih:=wP p y l (n+1);simp only[h,if_false,Bool.false_eq_true,ih];cases l.findIdx? p with
  |none=>rfl
  |some k=>
   show((n+1+k:Nat):Int)=((n+(k+1):Nat):Int);congr 1;omega
def YC {α:Type} (p:α→Bool) (xs:List α) (i:Nat):Bool:=match xs[i]? with|some x=>p x|none=>false
theorem PU {α:Type} (p:α→Bool) (xs:List α):(List.range xs.length).map (YC p xs)=xs.map p:=by
 apply List.ext_getElem
 (·simp);intro i h1 h2;have hi:i<xs.length:=aK;simp[YC,hi]
theorem Zu {α:Type} (p:α→Bool) (xs:List α):(List.range xs.length).any (YC p xs)=xs.any p:=by
 (have e:∀ {β:Type} (q:β→Bool) (l:List β),l.any q=(l.map q).any id:=fun q l=>by rw[List.any_map];rfl);rw[e,e p,PU]
theorem findIdx_map {α β:Type} (f:α→β) (p:β→Bool) (l:List α):(l.map f).findIdx? p=l.findIdx? fun x=>p (f x):=by
 rw[List.findIdx?_map];rfl
theorem Zv {α:Type} (p:α→Bool) (xs:List α):(List.range xs.length).findIdx? (YC p xs)=xs.findIdx? p:=by
 have h:=findIdx_map (YC p xs) id (List.range xs.length);have h2:=findIdx_map p id xs;rw[PU]at h;rw[h]at h2;exact h2
section
variable {P:Program} {ρ:Ren} {α:Type} {R:Rel α}
theorem PV {g:Nat} {lb:Array Value} {p:α→Bool} {xs:List α} {w:World} {A:Option Addr} (hp:jN P g lb R p xs w) {f:Nat→List Value} (hf:∀ W,Below w w W→∀ i (hi:i<xs.length),R.is W Any (f i) xs[i]):
 My P g lb (fun i=> .agg (f i).toArray) (YC p xs) (List.range xs.length) w:=fun W i hi hb=>by
 have hi':i<xs.length:=List.mem_range.1 hi
 have e:YC p xs i=p xs[i]:=by unfold YC;rw[List.getElem?_eq_getElem hi']
 rw[e]
 exact(hp W (f i) xs[i] (List.getElem_mem hi') (hf W hb i hi') hb).mono fun e w' ⟨h1,h2⟩=>⟨h1,hb.trans (h2.mono hb.size)⟩
theorem n_ (L:SlLaysH0.n8 P ρ) (aE:∀ w,(isAgg (ρ.t 23)).run P w= .ok true w) (zE:∀ w,(Go.sizeOf (ρ.t 23)).run P w= .ok R.k w) (p:α→Bool) (g:Nat) (lb:Array Value) (eg:∀ args w,(callFunc g args).run P w= .ok (.enter g args) w) (A:Option Addr) (c:Nat) (xs:List α) (w:World) (hp:jN P g lb R p xs w) (hbig:xs.length≤9223372036854775807) (hs:Sq R w Any A xs) (hne:xs≠[]):Calls P (ρ.f 8) #[bQ A xs c,.func (.func g) #[] lb] w fun e w'=>e= .returned (.bool (xs.any p))∧Below w w w':=by
 obtain⟨f,h1,h2,h3,h4⟩:=hs.lst;have h:=Jn L R.k aE zE f h1 (YC p xs) g lb eg A c (List.range xs.length) w (PV (A:=A) hp fun W hb i hi=>R.keep (h4 i hi) (cA.cj hb)) (by simpa using hbig) h2 (fun e=>hne (List.eq_nil_of_length_eq_zero (by simpa using congrArg List.length e)));rw[List.length_range,Zu]at h;exact h
theorem Jw (L:SlLaysH0.n6 P ρ) (aE:∀ w,(isAgg (ρ.t 23)).run P w= .ok true w) (zE:∀ w,(Go.sizeOf (ρ.t 23)).run P w= .ok R.k w) (p:α→Bool) (g:Nat) (lb:Array Value) (eg:∀ args w,(callFunc g args).run P w= .ok (.enter g args) w) (A:Option Addr) (c:Nat) (xs:List α) (w:World) (hp:jN P g lb R p xs w) (hbig:xs.length≤9223372036854775807) (hs:Sq R w Any A xs) (hne:xs≠[]):Calls P (ρ.f 6) #[bQ A xs c,.func (.func g) #[] lb] w fun e w'=>e= .returned (bR (rU p xs))∧Below w w w':=by
 obtain⟨f,h1,h2,h3,h4⟩:=hs.lst;have h:=UC L R.k aE zE f h1 (YC p xs) g lb eg A c (List.range xs.length) w (PV (A:=A) hp fun W hb i hi=>R.keep (h4 i hi) (cA.cj hb)) (by simpa using hbig) h2 (fun e=>hne (List.eq_nil_of_length_eq_zero (by simpa using congrArg List.length e)));unfold Lib.idxBy at h;rw[List.length_range,wP,Zv]at h;simp only[Nat.zero_add]at h;exact h
end
theorem yB (A:Option Addr) (c:Nat) (fv:Value) (w:World):Calls prog 39 #[bQ A 0 c,fv] w fun e w'=>e= .returned (bR (-1))∧w=w':=by
 go_enter func39,ntmps39;go_wp2_with fail;refine wp_loop_rounds 1 ?_;rw[rounds_succ];go_wp2_with fail;go_ret;exact⟨rfl,rfl⟩
theorem GI (p:_→Bool) (g:Nat) (lb:Array Value) (eg:∀ args w,(callFunc g args).run prog w= .ok (.enter g args) w) (A:Option Addr) (c:Nat) (xs:List cw) (w:World) (hp:jN prog g lb dL p xs w) (hbig:xs.length≤maxLen) (hs:Sq dL w Any A xs):Calls prog 39 #[bQ A xs c,.func (.func g) #[] lb] w fun e w'=>e= .returned (bR (rU p xs))∧Below w w w':=by
 cases xs with
 |nil=>exact(yB A c _ w).mono fun e w' ⟨he,hw⟩=>⟨he,hw▸Below.refl _ _⟩
 |cons a l=>exact Jw (R:=dL) EB Tryz.isAgg62 Tryz.sizeOf62 p g lb eg A c (a :: l) w hp a_ hs aj
theorem Ci (A:Option Addr) (c:Nat) (fv:Value) (w:World):Calls prog 48 #[bQ A 0 c,fv] w fun e w'=>e= .returned (bR (-1))∧w=w':=by
 go_enter func48,ntmps48;go_wp2_with fail;refine wp_loop_rounds 1 ?_;rw[rounds_succ];go_wp2_with fail;go_ret;exact⟨rfl,rfl⟩
theorem MA (p:_→Bool) (g:Nat) (lb:Array Value) (eg:∀ args w,(callFunc g args).run prog w= .ok (.enter g args) w) (A:Option Addr) (c:Nat) (xs:List cL) (w:World) (hp:jN prog g lb dS p xs w) (hbig:xs.length≤maxLen) (hs:Sq dS w Any A xs):Calls prog 48 #[bQ A xs c,.func (.func g) #[] lb] w fun e w'=>e= .returned (bR (rU p xs))∧Below w w w':=by
 cases xs with
 |nil=>exact(Ci A c _ w).mono fun e w' ⟨he,hw⟩=>⟨he,hw▸Below.refl _ _⟩
 |cons a l=>exact Jw (R:=dS) Jv Tryz.isAgg56 Tryz.sizeOf56 p g lb eg A c (a :: l) w hp a_ hs aj
theorem Cj (A:Option Addr) (c:Nat) (fv:Value) (w:World):Calls prog 133 #[bQ A 0 c,fv] w fun e w'=>e= .returned (bR (-1))∧w=w':=by
 go_enter func133,ntmps133;go_wp2_with fail;refine wp_loop_rounds 1 ?_;rw[rounds_succ];go_wp2_with fail;go_ret;exact⟨rfl,rfl⟩
theorem wQ (A:Option Addr) (c:Nat) (fv:Value) (w:World):Calls prog 62 #[bQ A 0 c,fv] w fun e w'=>e= .returned (.bool false)∧w=w':=by
 go_enter func62,ntmps62;go_wp2_with (go_at_call 133;refine(Cj _ _ _ _).mono ?_;rintro e w' ⟨rfl,rfl⟩);go_ret;exact⟨rfl,rfl⟩
theorem EE (p:_→Bool) (g:Nat) (lb:Array Value) (eg:∀ args w,(callFunc g args).run prog w= .ok (.enter g args) w) (A:Option Addr) (c:Nat) (xs:List dV) (w:World) (hp:jN prog g lb gT p xs w) (hbig:xs.length≤maxLen) (hs:Sq gT w Any A xs):Calls prog 62 #[bQ A xs c,.func (.func g) #[] lb] w fun e w'=>e= .returned (.bool (xs.any p))∧Below w w w':=by
 cases xs with
 |nil=>exact(wQ A c _ w).mono fun e w' ⟨he,hw⟩=>⟨he,hw▸Below.refl _ _⟩
 |cons a l=>exact n_ (R:=gT) GF Tryz.isAgg65 Tryz.sizeOf65 p g lb eg A c (a :: l) w hp a_ hs aj
theorem Ck (A:Option Addr) (c:Nat) (fv:Value) (w:World):Calls prog 159 #[bQ A 0 c,fv] w fun e w'=>e= .returned (bR (-1))∧w=w':=by
 go_enter func159,ntmps159;go_wp2_with fail;refine wp_loop_rounds 1 ?_;rw[rounds_succ];go_wp2_with fail;go_ret;exact⟨rfl,rfl⟩
theorem wR (A:Option Addr) (c:Nat) (fv:Value) (w:World):Calls prog 107 #[bQ A 0 c,fv] w fun e w'=>e= .returned (.bool false)∧w=w':=by
 go_enter func107,ntmps107;go_wp2_with (go_at_call 159;refine(Ck _ _ _ _).mono ?_;rintro e w' ⟨rfl,rfl⟩);go_ret;exact⟨rfl,rfl⟩
theorem EF (p:_→Bool) (g:Nat) (lb:Array Value) (eg:∀ args w,(callFunc g args).run prog w= .ok (.enter g args) w) (A:Option Addr) (c:Nat) (xs:List eU) (w:World) (hp:jN prog g lb jb p xs w) (hbig:xs.length≤maxLen) (hs:Sq jb w Any A xs):Calls prog 107 #[bQ A xs c,.func (.func g) #[] lb] w fun e w'=>e= .returned (.bool (xs.any p))∧Below w w w':=by
 cases xs with
 |nil=>exact(wR A c _ w).mono fun e w' ⟨he,hw⟩=>⟨he,hw▸Below.refl _ _⟩
 |cons a l=>exact n_ (R:=jb) GG Tryz.isAgg76 Tryz.sizeOf76 p g lb eg A c (a :: l) w hp a_ hs aj
theorem AR (A:Option Addr) (c:Nat) (fv:Value) (w:World):Calls prog 160 #[bQ A 0 c,fv] w fun e w'=>e= .returned (bR (-1))∧w=w':=by
 go_enter func160,ntmps160;go_wp2_with fail;refine wp_loop_rounds 1 ?_;rw[rounds_succ];go_wp2_with fail;go_ret;exact⟨rfl,rfl⟩
theorem vp (A:Option Addr) (c:Nat) (fv:Value) (w:World):Calls prog 109 #[bQ A 0 c,fv] w fun e w'=>e= .returned (.bool false)∧w=w':=by
 go_enter func109,ntmps109;go_wp2_with (go_at_call 160;refine(AR _ _ _ _).mono ?_;rintro e w' ⟨rfl,rfl⟩);go_ret;exact⟨rfl,rfl⟩
theorem tD (p:_→Bool) (g:Nat) (lb:Array Value) (eg:∀ args w,(callFunc g args).run prog w= .ok (.enter g args) w) (A:Option Addr) (c:Nat) (xs:List mX) (w:World) (hp:jN prog g lb jM p xs w) (hbig:xs.length≤maxLen) (hs:Sq jM w Any A xs):Calls prog 109 #[bQ A xs c,.func (.func g) #[] lb] w fun e w'=>e= .returned (.bool (xs.any p))∧Below w w w':=by
 cases xs with
 |nil=>exact(vp A c _ w).mono fun e w' ⟨he,hw⟩=>⟨he,hw▸Below.refl _ _⟩
 |cons a l=>exact n_ (R:=jM) EC Tryz.isAgg78 Tryz.sizeOf78 p g lb eg A c (a :: l) w hp a_ hs aj
theorem AU (A:Option Addr) (c:Nat) (fv:Value) (w:World):Calls prog 161 #[bQ A 0 c,fv] w fun e w'=>e= .returned (bR (-1))∧w=w':=by
 go_enter func161,ntmps161;go_wp2_with fail;refine wp_loop_rounds 1 ?_;rw[rounds_succ];go_wp2_with fail;go_ret;exact⟨rfl,rfl⟩
theorem vq (A:Option Addr) (c:Nat) (fv:Value) (w:World):Calls prog 111 #[bQ A 0 c,fv] w fun e w'=>e= .returned (.bool false)∧w=w':=by
 go_enter func111,ntmps111;go_wp2_with (go_at_call 161;refine(AU _ _ _ _).mono ?_;rintro e w' ⟨rfl,rfl⟩);go_ret;exact⟨rfl,rfl⟩
theorem Cl (p:_→Bool) (g:Nat) (lb:Array Value) (eg:∀ args w,(callFunc g args).run prog w= .ok (.enter g args) w) (A:Option Addr) (c:Nat) (xs:List eB) (w:World) (hp:jN prog g lb fO p xs w) (hbig:xs.length≤maxLen) (hs:Sq fO w Any A xs):Calls prog 111 #[bQ A xs c,.func (.func g) #[] lb] w fun e w'=>e= .returned (.bool (xs.any p))∧Below w w w':=by
 cases xs with
 |nil=>exact(vq A c _ w).mono fun e w' ⟨he,hw⟩=>⟨he,hw▸Below.refl _ _⟩
 |cons a l=>exact n_ (R:=fO) ED Tryz.isAgg106 Tryz.sizeOf106 p g lb eg A c (a :: l) w hp a_ hs aj
theorem Cm (A:Option Addr) (c:Nat) (fv:Value) (w:World):Calls prog 205 #[bQ A 0 c,fv] w fun e w'=>e= .returned (bR (-1))∧w=w':=by
 go_enter func205,ntmps205;go_wp2_with fail;refine wp_loop_rounds 1 ?_;rw[rounds_succ];go_wp2_with fail;go_ret;exact⟨rfl,rfl⟩
theorem wS (A:Option Addr) (c:Nat) (fv:Value) (w:World):Calls prog 173 #[bQ A 0 c,fv] w fun e w'=>e= .returned (.bool false)∧w=w':=by
 go_enter func173,ntmps173;go_wp2_with (go_at_call 205;refine(Cm _ _ _ _).mono ?_;rintro e w' ⟨rfl,rfl⟩);go_ret;exact⟨rfl,rfl⟩
theorem EG (p:_→Bool) (g:Nat) (lb:Array Value) (eg:∀ args w,(callFunc g args).run prog w= .ok (.enter g args) w) (A:Option Addr) (c:Nat) (xs:List cD) (w:World) (hp:jN prog g lb ja p xs w) (hbig:xs.length≤maxLen) (hs:Sq ja w Any A xs):Calls prog 173 #[bQ A xs c,.func (.func g) #[] lb] w fun e w'=>e= .returned (.bool (xs.any p))∧Below w w w':=by
 cases xs with
 |nil=>exact(wS A c _ w).mono fun e w' ⟨he,hw⟩=>⟨he,hw▸Below.refl _ _⟩
 |cons a l=>exact n_ (R:=ja) GH Tryz.isAgg54 Tryz.sizeOf54 p g lb eg A c (a :: l) w hp a_ hs aj
theorem UL {α:Type} {l:List α} {i:Nat} {d:α} (h:i<l.length):l.getD i d=l[i]:=by simp[h]
theorem gd_ge {α:Type} {l:List α} {i:Nat} {d:α} (h:l.length≤i):l.getD i d=d:=by simp[h]
theorem wT (p:ByteArray→Bool) (g:Nat) (lb:Array Value) (eg:∀ args w,(callFunc g args).run prog w= .ok (.enter g args) w) (A:Option Addr) (c:Nat) (xs:List ByteArray) (w:World) (hp:∀ x∈xs,∀ W,Below w w W→Calls prog g (#[bV x]++lb) W fun e w'=>e= .returned (.bool (p x))∧∃ n,w'=W.drewN n) (hbig:xs.length≤maxLen) (hs:Sq dw w Any A xs):Calls prog 104 #[bQ A xs c,.func (.func g) #[] lb] w fun e w'=>e= .returned (.bool (xs.any p))∧∃ n,w'=w.drewN n:=by
 cases xs with
 |nil=>exact(AnyE.slices_ContainsFunc_empty Fl A c _ w).mono fun e w' ⟨he,hw⟩=>⟨he,0,hw⟩
 |cons a l=>
  obtain⟨css,h1,h2,h3⟩:=hs;(have hne:css≠[]:=fun e=>by rw[e]at h1;simp at h1);obtain⟨b,off,rfl,_,hlt,hc⟩:=h2 hne;have hgd:∀ i,(a :: l).getD i a∈a :: l:=fun i=>by
   by_cases hi:i<(a :: l).length
   (·rw[UL hi];exact List.getElem_mem hi);rw[gd_ge af];simp
  have hm:(List.range (a :: l).length).map (fun i=>p ((a :: l).getD i a))=(a :: l).map p:=by
   apply List.ext_getElem
   (·simp);intro i h1 h2;have hi:i<(a :: l).length:=aK;simp only[List.getElem_map,List.getElem_range,UL hi]
  have han:(List.range (a :: l).length).any (fun i=>p ((a :: l).getD i a))=(a :: l).any p:=by
   (have e:∀ {β:Type} (q:β→Bool) (l:List β),l.any q=(l.map q).any id:=fun q l=>by rw[List.any_map];rfl);rw[e,e p,hm]
  have h:=AnyE.slices_ContainsFunc Fl (fun i=>bV ((a :: l).getD i a)) (fun i=>p ((a :: l).getD i a)) g lb eg b off (a :: l).length c (List.range (a :: l).length) w (fun W i hb=>hp _ (hgd i) W hb) aj a_ (fun j hj=>?_)
  (·rw[show(List.range (a :: l).length).take (a :: l).length=List.range (a :: l).length from List.take_of_length_le aj,han]at h;exact h);have hj':j<(a :: l).length:=bB;have PW:j<css.length:=af;have h9:=h3 j _ _ (List.getElem?_eq_getElem PW) (List.getElem?_eq_getElem hj');have e:css[j]=[bV (a :: l)[j]]:=h9;have h8:=hc j _ (List.getElem?_eq_getElem PW) 0 (bV (a :: l)[j]) bf;have e3:(List.range (a :: l).length)[j]! =j:=(by rw[getElem!_pos (List.range (a :: l).length) j hj];simp);rw[e3,UL hj'];simpa [dw,jX]using h8
end
end Go.Proofs.YtkfofnjfihfgkaaGreatDoor
namespace Go.Proofs.YtkfofnjfihfgkaaGreatDoor
open Go Go.RowKit Kb Sh Go.Proofs
section
theorem zL:∀ (l:List cD) (k:Nat) (x:cD),l[k]? =some x→eC (l.take (k+1))=eC (l.take k)+cU x
 |[],k,x,h=>by simp at h
 |a :: l,0,x,h=>by simp at h;subst h;simp[eC]
 |a :: l,k+1,x,h=>by
  have ih:=zL l k x aO;simp only[List.take_succ_cons,eC,ih];omega
theorem zM:∀ (l:List cD) (k:Nat) (x:cD),l[k]? =some x→gJ (l.take (k+1))=max (gJ (l.take k)) (fM x)
 |[],k,x,h=>by simp at h
 |a :: l,0,x,h=>by simp at h;subst h;simp[gJ]
 |a :: l,k+1,x,h=>by
  have ih:=zM l k x aO;simp only[List.take_succ_cons,gJ,ih];omega
theorem Fm:∀ (l:List cD) (k:Nat),eC (l.take k)≤eC l
 |[],k=>by simp
 |a :: l,0=>by simp[eC]
 |a :: l,k+1=>by
  have:=Fm l k;simp only[List.take_succ_cons,eC];omega
theorem Fo:∀ (l:List cD) (k:Nat),gJ (l.take k)≤gJ l
 |[],k=>by simp
 |a :: l,0=>by simp[gJ]
 |a :: l,k+1=>by
  have:=Fo l k;simp only[List.take_succ_cons,gJ];omega
theorem oW:∀ x:cD,1≤cU x
 | .mk _ _ _ _ l=>by unfold cU;omega
theorem kZ:∀ l:List cD,l.length≤eC l
 |[]=>by simp[eC]
 |x :: l=>by
  have h1:=oW x;have h2:=kZ l;simp only[eC,List.length_cons];omega
theorem lI:∀ (l:List cD) (x:cD),x∈l→cU x≤eC l
 |[],x,h=>by simp at h
 |a :: l,x,h=>by
  unfold eC;rcases List.mem_cons.1 h with rfl|h
  (·omega);have:=lI l x h;omega
def Ms (s:ByteArray):Prop:=s.size≤maxLen
mutual
def GJ:cD→Prop
 | .mk _ _ u n l=>Ms u∧Ms n∧Zw l
def Zw:List cD→Prop
 |[]=>True
 |x :: l=>GJ x∧Zw l
end
theorem Zw.mem:∀ {l:List cD},Zw l→∀ x∈l,GJ x
 |[],_,x,h=>by simp at h
 |a :: l,hs,x,h=>by
  unfold Zw at hs;rcases List.mem_cons.1 h with rfl|h
  (·exact hs.1);exact Zw.mem hs.2 x h
theorem zN:∀ l:List cD,iK l= !(l.any fun y=> !eF y)
 |[]=>rfl
 |x :: l=>by
  unfold iK;rw[zN l,List.any_cons];cases eF x<;>cases (l.any fun y=> !eF y)<;>rfl
theorem gset {a w:World} {g:Nat} (h:a.grownBy w (some g)) (i:Nat) (u:Value):a.grownBy (w.setCell (bS g i) u) (some g):=
 ⟨h.os,h.tape,h.output,by simpa [World.setCell]using h.size,fun k hk hne=>(Below.heap_setCell w (bS g i) u k (by
  rintro rfl;exact hne rfl)).trans (h.block k hk hne)⟩
theorem galloc {a w:World} {row:Option Nat} (h:a.grownBy w row) (o:Obj):a.grownBy (w.alloc o) row:=h.trans (World.grownBy_alloc w o row)
theorem cA.PX {b:Nat} {w w':World} (h:w.grownBy w' (some b)):cA (fun k=>k≠b) w w':=⟨h.size,fun k hk hne=>h.block k hk (fun e=>hne aas)⟩
structure IJ (b c:Nat) (w w':World):Prop where
 cell:bW w' b 0 (bR (c:Int))
 frz:w'.frozen? (bS b 0)=false
 lt:b<w'.heap.size
 turn:w.grownBy w' (some b)
theorem IJ.set {b c c':Nat} {w w':World} (h:IJ b c w w'):IJ b c' w (w'.setCell (bS b 0) (bR (c':Int))):=by
 obtain⟨h1,h2,h3,h4⟩:=h;exact⟨World.cell?_setCell_same _ _ _ h1,by simpa [go_sem]using h2,by simpa [World.setCell]using h3,gset h4 0 _⟩
theorem IJ.alloc {b c:Nat} {w w':World} (h:IJ b c w w') (o:Obj):IJ b c w (w'.alloc o):=by
 obtain⟨h1,h2,h3,h4⟩:=h;exact⟨(World.cell?_alloc_lt w' o (bS b 0) h3).trans h1,(((Below.refl _ w').alloc (Nat.le_refl _) o).frozen (p:=bS b 0) h3).trans h2,by simp;omega,galloc h4 o⟩
theorem IJ.next {b c c':Nat} {w w' w'':World} (h:IJ b c w w') (k:IJ b c' w' w''):IJ b c' w w'':=⟨k.cell,k.frz,k.lt,h.turn.trans k.turn⟩
def uh (x:cD) (lv c b:Nat) (w:World) (e:Ending) (w':World):Prop:=
 ∃ c':Nat,e= .returned (.bool (decide (c+cU x≤200)&&decide (lv+fM x≤21)))∧c'≤201∧(c+cU x≤200∧lv+fM x≤21→c'=c+cU x)∧
  IJ b c' w w'
theorem RB (N:Nat):∀ (x:cD),cU x≤N→∀ (cs:List Value) (b c lv:Nat) (w:World),cR w (fun k=>k≠b) cs x→IJ b c w w→c≤200→lv≤21→Calls prog 120 #[.agg cs.toArray,.pointer (bS b 0),bR (lv:Int)] w (uh x lv c b w):=by
 induction N with
 |zero=>intro x hx;have:=oW x;omega
 |succ N ih=>
  intro x hx cs b c lv w hI hat hc2 hlv;have Ud:=aa hat;obtain⟨hc,hf,hb,_⟩:=hat;obtain⟨op,n,unit,name,A,cp,args,rfl,rfl,hS⟩:=hI.parts;have Zx:cU (.mk op n unit name args)=1+eC args:=(by unfold cU;rfl);have hdE:fM (.mk op n unit name args)=1+gJ args:=(by unfold fM;rfl);rw[Zx]at hx;have HR:=aa (show ∀ e w',(∃ c':Nat,e= .returned (.bool (decide (c+(1+eC args)≤200)&&decide (lv+(1+gJ args)≤21)))∧c'≤201∧(c+(1+eC args)≤200∧lv+(1+gJ args)≤21→c'=c+(1+eC args))∧
   IJ b c' w w')→uh (.mk op n unit name args) lv c b w e w' from fun e w' h=>by unfold uh;rw[Zx,hdE];exact h)
  generalize hP:uh (.mk op n unit name args) lv c b w=P at HR ⊢;clear hP hI Zx hdE;have HS:=aa hS;have HIH:=aa ih;clear hS ih;have hbn:b≠w.heap.size:=af;have hbn2:w.heap.size≠b:=af;have d1:decide ((200:Int)<(c:Int)+1)=decide (200<c+1):=(by rw[decide_eq_decide];omega);have d2:decide ((20:Int)<(lv:Int))=decide (20<lv):=(by rw[decide_eq_decide];omega);by_cases h1:200<c+1
  (·have H1:=aa h1;rw[decide_eq_true h1]at d1;clear h1;go_enter func120,ntmps120;go_wp2_with fail;exact HR.o _ _ ⟨c+1,by rw[show decide (c+(1+eC args)≤200)=false by(have:=H1.o;simp;omega)];rfl,by omega,fun h=>by(have:=H1.o;omega),(Ud.o.set (c':=c+1)).alloc _⟩);rw[decide_eq_false h1]at d1;by_cases h2:20<lv
  (·have H2:=aa h2;rw[decide_eq_true h2]at d2;clear h2;go_enter func120,ntmps120;go_wp2_with fail;exact HR.o _ _ ⟨c+1,by rw[show decide (lv+(1+gJ args)≤21)=false by(have:=H2.o;simp;omega),Bool.and_false];rfl,by omega,fun h=>by(have:=H2.o;omega),(Ud.o.set (c':=c+1)).alloc _⟩);rw[decide_eq_false h2]at d2;have yC:c+1≤200:=af;have Cn:lv≤20:=af;clear h1 h2;go_enter func120,ntmps120;go_wp2_with fail;have HA1:=aa (show IJ b (c+1) w ((w.setCell (bS b 0) (bR ((c:Int)+1))).alloc (.cells #[bR op,bR n,bV unit,bV name,bQ A args cp] 54))from(Ud.o.set (c':=c+1)).alloc _);generalize hW:((w.setCell (bS b 0) (bR ((c:Int)+1))).alloc (.cells #[bR op,bR n,bV unit,bV name,bQ A args cp] 54))=W at HA1 ⊢;clear hW;go_loopw [25] (fun s wr=>∃ k:Nat,k≤args.length∧s=bR (k:Int)∧k≤200∧c+1+eC (args.take k)≤200∧lv+1+gJ (args.take k)≤21∧Hid (IJ b (c+1+eC (args.take k)) w wr)) (fun s _=>args.length - (intOf s).toNat);(case atStart=>exact⟨0,Nat.zero_le _,rfl,by omega,by simp[eC];omega,by simp[gJ];omega,show IJ b (c+1+eC (args.take 0)) w W from by simpa [eC]using HA1.o⟩);obtain⟨k,hk,rfl,hk2,yb,Ue,HA⟩:=hrel;by_cases hlt:k<args.length
  ·have HSk:=aa (HS.o.keep (cA.PX HA.o.turn));obtain⟨g,off,cs,rfl,hgb,Jx,hex,dn⟩:=HSk.o.get hlt;have hx:args[k]? =some args[k]:=List.getElem?_eq_getElem hlt;have hxm:args[k]∈args:=List.getElem_mem hlt;generalize args[k]=y at hex hx hxm;(have hny:cU y≤N:=by have:=lI args y hxm;omega);have HT:=aa (zL args k y hx);have HD:=aa (zM args k y hx);have YD:=aa (Fm args (k+1));have HLD:=aa (Fo args (k+1));have hyp:=oW y;have hex0:=hex;obtain⟨op',n',unit',name',A',cp',args',rfl,rfl,_⟩:=hex.parts;have c0:bW wr g (off+k*5) (bR op'):=dn 0 _ rfl;have c1:bW wr g (off+k*5+1) (bR n'):=dn 1 _ rfl;have c2:bW wr g (off+k*5+2) (bV unit'):=dn 2 _ rfl;have c3:bW wr g (off+k*5+3) (bV name'):=dn 3 _ rfl;have c4:bW wr g (off+k*5+4) (bQ A' args' cp'):=dn 4 _ rfl;have AV:=aa hex0;generalize hy:cD.mk op' n' unit' name' args'=y at AV HT HD hny hyp;generalize hq:eC (args.take k)=q at HA HT yb;have HQ:=aa hq;have HY:=aa hy;have hq201:c+1+q≤200:=af;have HCALL:=aa (HIH.o y hny [bR op',bR n',bV unit',bV name',bQ A' args' cp'] b (c+1+q) (lv+1) (wr.alloc (.cells #[bR op',bR n',bV unit',bV name',bQ A' args' cp'] 54)) (AV.o.keep (cA.PX (World.grownBy_alloc wr _ _)))
    (by have h:=HA.o;exact⟨(h.alloc _).cell,(h.alloc _).frz,(h.alloc _).lt,World.grownBy.refl _ _⟩) hq201 af)
   clear dn hex hex0 hq hy hx hxm;go_wp2_with fail;refine(HCALL.o).mono ?_;rintro e w2 ⟨c',rfl,hc',hcc,hat⟩;have Jy:=aa ((HA.o.alloc (.cells #[bR op',bR n',bV unit',bV name',bQ A' args' cp'] 54)).next hat);have HCC:=aa hcc;clear hat hcc;by_cases hr:c+1+q+cU y≤200∧lv+1+fM y≤21
   (·have hrb:(decide (c+1+q+cU y≤200)&&decide (lv+1+fM y≤21))=true:=(by simp[hr]);rw[hrb];have YE:=aa hr;clear hr hrb;go_wp2_with fail;go_roundw;(case rel=>have e1:=HCC.o YE.o;have h3:=YE.o;have hlen:=kZ (args.take (k+1));rw[HT.o,List.length_take]at hlen;exact⟨k+1,by omega,by go_num,by omega,by rw[HT.o];omega,by rw[HD.o];omega,by rw[HT.o,show c+1+(q+cU y)=c' by omega];exact Jy.o⟩);(case measure=>simp[intOf];omega));have hrb:(decide (c+1+q+cU y≤200)&&decide (lv+1+fM y≤21))=false:=aq;rw[hrb];have YE:=aa hr;clear hr hrb;go_wp2_with fail;have h3:=YE.o;have t1:=HT.o;have t2:=HD.o;have t3:=YD.o;have t4:=HLD.o;have t5:=HQ.o;have hno:¬(c+(1+eC args)≤200∧lv+(1+gJ args)≤21):=af;exact HR.o _ _ ⟨c',by rw[show(decide (c+(1+eC args)≤200)&&decide (lv+(1+gJ args)≤21))=false by simp;omega];rfl,hc',fun h=>absurd h hno,Jy.o⟩
  (obtain rfl:k=args.length:=by omega);rw[List.take_length]at yb Ue HA;go_wp2_with fail;exact HR.o _ _ ⟨c+1+eC args,by rw[show(decide (c+(1+eC args)≤200)&&decide (lv+(1+gJ args)≤21))=true by simp;omega];rfl,by omega,fun h=>by omega,HA.o⟩
theorem EH:∀ args w,(callFunc 171 args).run prog w= .ok (.enter 171 args) w:=enters_of func171 ai rfl
theorem MB (N:Nat):∀ (x:cD),cU x≤N→cU x≤1000000→GJ x→∀ (cs:List Value) (w:World),cR w Any cs x→Calls prog 121 #[.agg cs.toArray] w (Ch (eF x) w):=by
 induction N with
 |zero=>intro x hx;have:=oW x;omega
 |succ N ih=>
  intro x hx hM hsm cs w hI;obtain⟨op,n,unit,name,A,cp,args,rfl,rfl,hS⟩:=hI.parts;have Zx:cU (.mk op n unit name args)=1+eC args:=(by unfold cU;rfl);have hsh:eF (.mk op n unit name args)=(mA op n unit name args.length&& !(args.any fun y=> !eF y)):=by
   (conv=>lhs;unfold eF);rw[zN]
  rw[hsh];rw[Zx]at hx hM;have hlen:=kZ args;unfold GJ at hsm;obtain⟨hu,hnm,vS⟩:=hsm;have HN:=fun W=>UJ op n unit name A args.length cp W hu hnm;have hpred:∀ W,Below w w W→jN prog 171 #[] ja (fun y=> !eF y) args W:=fun W hW V cs y hy hIy hV=>by
   have hny0:=lI args y hy;have hny:cU y≤N:=af;have hny1:cU y≤1000000:=af;have HC:=aa (fun U (k:cR U Any cs y)=>ih y hny hny1 (vS.mem y hy) cs U k);have HI:=aa hIy;have hcs:=ja.len hIy;obtain⟨op',n',unit',name',A',cp',args',rfl,rfl,_⟩:=cR.parts hIy;generalize hy2:eF (.mk op' n' unit' name' args')=r at HC;clear ih hIy hcs hW hV;show Calls _ _ #[_] V fun e w'=>e= .returned (.bool (!eF (.mk op' n' unit' name' args')))∧Below V V w';rw[hy2];cases r<;>
    (go_enter func171,ntmps171
     go_wp2_with fail
     refine(HC.o _ (HI.o.keep (cA.cj (cJ _)))).mono ?_
     rintro e w2 ⟨rfl,hb2⟩
     have eT:=aa (((Below.refl _ V).alloc (Nat.le_refl _) _).trans (hb2.mono aj))
     clear hb2
     go_wp2_with fail
     go_ret
     exact⟨rfl,eT.o⟩)
  have hcon:=fun W (hb:Below w w W)=>EG (fun y=> !eF y) 171 #[] EH A cp args W (hpred W hb) aT (hS.bU hb);generalize mA op n unit name args.length=q at HN ⊢;generalize (args.any fun y=> !eF y)=r at hcon ⊢;have HNN:=aa HN;have HCC:=aa hcon;clear HN hcon hpred ih hS hI hsh Zx vS hlen hx hM;cases q with
  |false=>
   go_enter func121,ntmps121;go_wp2_with fail;refine(HNN.o _).mono ?_;rintro e w1 ⟨rfl,hb1⟩;have eJ:=aa (((Below.refl _ w).alloc (Nat.le_refl _) _).trans (hb1.mono aj));clear hb1;go_wp2_with fail;go_ret;exact⟨rfl,eJ.o⟩
  |true=>
   cases r<;>
    (go_enter func121,ntmps121
     go_wp2_with fail
     refine(HNN.o _).mono ?_
     rintro e w1 ⟨rfl,hb1⟩
     obtain⟨hc1,jH⟩:=tC hb1
     have eJ:=aa (((Below.refl _ w).alloc (Nat.le_refl _) _).trans (hb1.mono aj))
     clear hb1
     go_wp2_with fail
     refine(HCC.o _ eJ.o).mono ?_
     rintro e w2 ⟨rfl,hb2⟩
     have eT:=aa (eJ.o.trans (hb2.mono eJ.o.size))
     clear hb2
     go_wp2_with fail
     go_ret
     exact⟨rfl,eT.o⟩)
theorem uj (x:cD) (cs:List Value) (w:World) (hI:cR w Any cs x) (hsm:GJ x):Calls prog 47 #[.agg cs.toArray] w (Ch (fj x) w):=by
 have HI:=aa hI;obtain⟨op,n,unit,name,A,cp,args,hx,rfl,hS⟩:=hI.parts;have HCT:=aa (fun W b (k:cR W (fun k=>k≠b) [bR op,bR n,bV unit,bV name,bQ A args cp] x) (hat:IJ b 0 W W)=>RB (cU x) x (Nat.le_refl _) _ b 0 1 W k hat af af);have hr:fj x=((decide (0+cU x≤200)&&decide (1+fM x≤21))&&eF x):=by
  unfold fj;rw[show decide (fM x≤20)=decide (1+fM x≤21) by rw[decide_eq_decide];omega,Nat.zero_add]
 rw[hr];have EI:=aa (fun W (k:cR W Any [bR op,bR n,bV unit,bV name,bQ A args cp] x) (h:cU x≤200)=>MB (cU x) x (Nat.le_refl _) af hsm _ W k);clear hS hI hsm hr hx;generalize hd:(decide (0+cU x≤200)&&decide (1+fM x≤21))=d;generalize hs:eF x=s at EI;have HD:=aa hd;clear hs hd;have H0:=aa (show cR ((w.alloc (.cells #[bR op,bR n,bV unit,bV name,bQ A args cp] 54)).alloc (.cells #[bR 0] 3)) (fun k=>k≠w.heap.size+1) [bR op,bR n,bV unit,bV name,bQ A args cp] x from
  ((HI.o.mono (S':=fun k=>k≠w.heap.size+1) (fun b hb _=>by omega)).keep (cA.cj (cJ _))).keep (cA.cj (cJ _)))
 have Ud:=aa (show IJ (w+1) 0 ((w.alloc (.cells #[bR op,bR n,bV unit,bV name,bQ A args cp] 54)).alloc (.cells #[bR 0] 3)) ((w.alloc (.cells #[bR op,bR n,bV unit,bV name,bQ A args cp] 54)).alloc (.cells #[bR 0] 3))from
  ⟨by rw[show w.heap.size+1=(w.alloc (.cells #[bR op,bR n,bV unit,bV name,bQ A args cp] 54)).heap.size by simp,World.cell?_alloc_new];rfl,by simp[go_sem],by simp,World.grownBy.refl _ _⟩)
 cases d with
 |false=>
  go_enter func47,ntmps47;go_wp2_with fail;refine(HCT.o _ _ H0.o Ud.o).mono ?_;rintro e w1 ⟨c',rfl,_,_,hat⟩;rw[HD.o];have HB:=aa (show Below w w w1 from(((Below.refl _ w).alloc (Nat.le_refl _) _).alloc aj _).grown hat.turn aq (fun k hk=>by injection hk with hk;omega));clear hat;go_wp2_with fail;go_ret;exact⟨rfl,HB.o⟩
 |true=>
  go_enter func47,ntmps47;go_wp2_with fail;refine(HCT.o _ _ H0.o Ud.o).mono ?_;rintro e w1 ⟨c',rfl,_,_,hat⟩;rw[HD.o];have HB:=aa (show Below w w w1 from(((Below.refl _ w).alloc (Nat.le_refl _) _).alloc aj _).grown hat.turn aq (fun k hk=>by injection hk with hk;omega));have hk:∀ o,w1.cell? (bS w o)=((w.alloc (.cells #[bR op,bR n,bV unit,bV name,bQ A args cp] 54)).alloc (.cells #[bR 0] 3)).cell? (bS w o):=fun o=>hat.turn.cell_far (bS w o) aq aj;have c0:bW w1 w 0 (bR op):=(hk 0).trans ax;have c1:bW w1 w 1 (bR n):=(hk 1).trans ax;have c2:bW w1 w 2 (bV unit):=(hk 2).trans ax;have c3:bW w1 w 3 (bV name):=(hk 3).trans ax;have c4:bW w1 w 4 (bQ A args cp):=(hk 4).trans ax;(have hn2:cU x≤200:=by have:=HD.o;simp at this;exact this.1);clear hat hk;go_wp2_with fail;refine(EI.o _ (HI.o.keep (cA.cj HB.o)) hn2).mono ?_;rintro e w2 ⟨rfl,hb2⟩;have eT:=aa (HB.o.trans (hb2.mono HB.o.size));clear hb2;go_wp2_with fail;go_ret;exact⟨rfl,eT.o⟩
end
end Go.Proofs.YtkfofnjfihfgkaaGreatDoor
namespace Go.Proofs.YtkfofnjfihfgkaaGreatDoor
open Go Go.RowKit Go.Proofs Sh Kb
def okF:List ByteArray→Bool→List IG→Bool
 |_,ok,[]=>ok
 |l,ok,(n,b) :: us=>okF (n :: l) (ok&&b&&cT n&& !l.contains n) us
def fU:List ByteArray→List IG→List ByteArray
 |l,[]=>l
 |l,(n,_) :: us=>fU (n :: l) us
theorem okF_eq:∀ (us:List IG) (l:List ByteArray) (ok:Bool),okF l ok us=(ok&&oV l us)
 |[],l,ok=>by simp[okF,oV]
 |(n,b) :: us,l,ok=>by
  simp only[okF,oV,okF_eq us];cases ok<;>cases b<;>cases cT n<;>cases l.contains n<;>simp
theorem vr:∀ (us vs:List IG) (l:List ByteArray) (ok:Bool),okF l ok (us++vs)=okF (fU l us) (okF l ok us) vs
 |[],_,_,_=>rfl
 |(n,b) :: us,vs,l,ok=>by
  simp only[List.cons_append,okF,fU];exact vr us vs _ _
theorem qJ:∀ (us vs:List IG) (l:List ByteArray),fU l (us++vs)=fU (fU l us) vs
 |[],_,_=>rfl
 |(n,b) :: us,vs,l=>by
  simp only[List.cons_append,fU];exact qJ us vs _
theorem fq:∀ (us:List IG) (l:List ByteArray),(fU l us).length=us.length+l.length
 |[],l=>by simp[fU]
 |(n,b) :: us,l=>by
  simp only[fU,fq us,List.length_cons];omega
theorem wU:∀ (us:List IG) (l:List ByteArray),l.Nodup→oV l us=true→(fU l us).Nodup
 |[],l,hl,_=>hl
 |(n,b) :: us,l,hl,h=>by
  simp only[oV,Bool.and_eq_true]at h;refine wU us (n :: l) ?_ h.2;rw[List.nodup_cons];exact⟨by simpa using h.1.2,hl⟩
def gW (W0 w:World) (g m:Nat) (l:List ByteArray) (ok:Bool) (us:List IG):Prop:=iL w g m (fU l us) (okF l ok us)∧Two g m W0 w
theorem Two.keeps {g m:Nat} {w w':World} (h:Two g m w w'):cA (fun b=>b≠g∧b≠m) w w':=⟨h.2.2.2.1,fun b hb hs=>h.2.2.2.2 b hb hs.1 hs.2⟩
theorem Two.cell {g m:Nat} {w w':World} (h:Two g m w w') {b o:Nat} (hb:b<w.heap.size) (h1:b≠g) (h2:b≠m):w'.cell? (bS b o)=w.cell? (bS b o):=World.cell?_of_block (a:=bS b o) (h.2.2.2.2 b hb h1 h2)
theorem iL.bU {w w':World} {g m:Nat} {l:List ByteArray} {ok:Bool} (h:iL w g m l ok) (hb:Below w w w'):iL w' g m l ok:=⟨h.1.bU hb h.1.lt,h.2.1.bU hb h.2.1.lt,h.2.2⟩
theorem gW.start {W0:World} {g m:Nat} {l:List ByteArray} {ok:Bool} (h:iL W0 g m l ok):gW W0 W0 g m l ok []:=⟨h,Two.refl _ _ _⟩
theorem gW.one {W0 w w1 w':World} {e:Ending} {g m:Nat} {l:List ByteArray} {ok good rt b:Bool} {us:List IG} {nm:ByteArray} (h:gW W0 w g m l ok us) (hb:Below w w w1) (hg:(good&&rt)=b) (hu:Zn g m (fU l us) nm (okF l ok us&&good&&rt&&cT nm&& !(fU l us).contains nm) w1 e w'):gW W0 w' g m l ok (us++[(nm,b)]):=by
 obtain⟨_,h1,h2⟩:=hu;refine⟨?_,h.2.trans ((Two.cj hb).trans h2)⟩;rw[qJ,vr];simp only[fU,okF];rw[← hg,show(okF l ok us&&(good&&rt))=(okF l ok us&&good&&rt) by rw[Bool.and_assoc]];exact h1
theorem ij {α β:Type} (f:α→β) {xs:List α} {k:Nat} (h:k<xs.length):(xs.take (k+1)).map f=(xs.take k).map f++[f xs[k]]:=by
 rw[List.take_add_one,List.getElem?_eq_getElem h,List.map_append];rfl
def PY (g m:Nat) (l:List ByteArray) (ok:Bool) (us:List IG) (w:World) (e:Ending) (w':World):Prop:=e= .returned (.tuple #[])∧iL w' g m (fU l us) (okF l ok us)∧Two g m w w'
structure UM (x:eL):Prop where
 name:Ms x.name
 unit:Ms x.unit
 port:Ms x.port
structure Zy (x:gR):Prop where
 name:Ms x.name
 unit:Ms x.unit
 kind:Ms x.kind
structure Zz (x:eB):Prop where
 name:Ms x.name
 unit:Ms x.unit
 rows:x.rows.length≤maxLen
structure GK (x:mX):Prop where
 name:Ms x.name
 unit:Ms x.unit
structure SmFunc (x:eU):Prop where
 name:Ms x.name
 params:x.params.length≤maxLen
 each:∀ p∈x.params,GK p
 body:GJ x.body
structure vt (x:cL):Prop where
 name:Ms x.name
 unit:Ms x.unit
 iY:GJ x.iY
structure SmPort (x:kO):Prop where
 name:Ms x.name
 unit:Ms x.unit
structure ZA (x:jz):Prop where
 name:Ms x.name
 unit:Ms x.unit
structure yD (x:dV):Prop where
 inp:(∀ s∈x.inp,Ms s)∧x.inp.length≤maxLen
 o:(∀ s∈x.o,Ms s)∧x.o.length≤maxLen
 name:Ms x.name
 cells:(∀ s∈x.cells,Ms s)∧x.cells.length≤maxLen
structure wV (x:cw):Prop where
 kind:Ms x.kind
 steps:x.steps.length≤maxLen
 each:∀ s∈x.steps,yD s
structure fe (s:bY):Prop where
 name:Ms s.name
 imports:∀ x∈s.imports,UM x
 inputs:∀ x∈s.inputs,Zy x
 tables:∀ x∈s.tables,Zz x
 funcs:∀ x∈s.funcs,SmFunc x
 cells:∀ x∈s.cells,vt x
 b9:∀ x∈s.b9,SmPort x
 stores:∀ x∈s.stores,ZA x
 bX:∀ x∈s.bX,wV x
 len:(uses s).length+s.bX.length≤1000000000000
structure Lit (s:bY):Prop where
 sm:fe s
 uses:(uses s).length≤10000000
 names:(bZ s).length≤1000000000
 Co:s.bX.length≤10000000
 GL:s.tables.length≤10000000
 GM:s.funcs.length≤10000000
 Cp:s.cells.length≤10000000
 tables:∀ t∈s.tables,t.rows.length≤1000000000
 bX:∀ r∈s.bX,r.steps.length≤1000000000∧∀ y∈r.steps,y.inp.length≤1000000000∧y.o.length≤1000000000∧y.cells.length≤1000000000
 funcs:∀ f∈s.funcs,cU f.body≤1000000∧f.params.length≤1000000000
 cells:∀ c∈s.cells,cU c.iY≤1000000
section
def mB (s:ByteArray):Nat:=s.size+1
mutual
def mE:cD→Nat
 | .mk _ _ u n l=>u.size+n.size+mEL l+6
def mEL:List cD→Nat
 |[]=>0
 |x :: l=>mE x+mEL l
end
def wW (x:eL):Nat:=x.name.size+x.unit.size+x.port.size+1
def Cq (x:gR):Nat:=x.name.size+x.unit.size+x.kind.size+1
def UN (x:ym):Nat:=1
def Cr (x:eB):Nat:=x.name.size+x.unit.size+(x.rows.map UN).sum+1
def Cs (x:mX):Nat:=x.name.size+x.unit.size+1
def Jz (x:eU):Nat:=x.name.size+(x.params.map Cs).sum+mE x.body+1
def JA (x:cL):Nat:=x.name.size+x.unit.size+mE x.iY+1
def JB (x:kO):Nat:=x.name.size+x.unit.size+1
def Ct (x:jz):Nat:=x.name.size+x.unit.size+1
def JC (x:dV):Nat:=(x.inp.map mB).sum+(x.o.map mB).sum+x.name.size+(x.cells.map mB).sum+1
def wX (x:cw):Nat:=x.kind.size+(x.steps.map JC).sum+1
def UO (s:bY):Nat:=s.name.size+(s.imports.map wW).sum+(s.inputs.map Cq).sum+(s.tables.map Cr).sum+(s.funcs.map Jz).sum+(s.cells.map JA).sum+(s.b9.map JB).sum+(s.stores.map Ct).sum+(s.bX.map wX).sum+1
theorem PZ:∀ l:List cD,mEL l=(l.map mE).sum
 |[]=>by simp[mEL]
 |x :: l=>by simp[mEL,PZ l]
end
end Go.Proofs.YtkfofnjfihfgkaaGreatDoor
