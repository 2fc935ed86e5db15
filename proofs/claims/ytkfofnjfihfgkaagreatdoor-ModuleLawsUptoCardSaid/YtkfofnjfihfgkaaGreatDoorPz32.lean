/- Parts of the proof, packed (RecP to LitR); each theorem bears its own conditions. -/
import Derived.Test.YtkfofnjfihfgkaaGreatDoorPz16
set_option linter.unusedVariables false
set_option linter.unusedSimpArgs false
set_option maxRecDepth 100000
set_option maxHeartbeats 8000000
open Go.Proofs.Tryz
open Go.Lib renaming hid → aa
theorem aac {p:Prop} (h:p:=by cases hx):p:=h
namespace Sh
open Kb
def vP (l:List dV):List ByteArray:=l.flatMap fun y=>y.inp++y.o
def dQ:List cw→ByteArray→List dV
 |[],_=>[]
 |y :: l,k=>if y.kind=k then y.steps else dQ l k
theorem ia (y:cw) (l:List cw) (k:ByteArray):dQ (y :: l) k=if y.kind=k then y.steps else dQ l k:=rfl
def kf (l:List cw) (k:ByteArray):Prop:=∃ y∈l,y.kind=k
instance (l:List cw) (k:ByteArray):Decidable (kf l k):=by unfold kf;infer_instance
def jt (b:List cw) (y:cw):cw:=⟨y.kind,y.steps++dQ b y.kind⟩
def fQ (a b:List cw):List cw:=a.map (jt b)++b.filter fun x=>decide (¬kf a x.kind)
def nO (a b:List ByteArray):Prop:=∃ s∈a,s∈b
def ic (a b:List cw):Prop:=∃ x∈b,nO (vP (dQ a x.kind)) (vP x.steps)
theorem LF (a b:List ByteArray):mF a b=true↔nO a b:=by simp[mF,nO]
theorem zC {a b c:List ByteArray}:nO (a++b) c↔nO a c∨nO b c:=by
 unfold nO;constructor
 ·rintro⟨s,h,k⟩;rcases List.mem_append.1 h with h|h
  (·exact .inl ⟨s,h,k⟩);exact .inr ⟨s,h,k⟩
 rintro(⟨s,h,k⟩|⟨s,h,k⟩)
 (·exact⟨s,List.mem_append_left _ h,k⟩);exact⟨s,List.mem_append_right _ h,k⟩
theorem vQ {a b c:List ByteArray}:nO c (a++b)↔nO c a∨nO c b:=by
 unfold nO;constructor
 ·rintro⟨s,k,h⟩;rcases List.mem_append.1 h with h|h
  (·exact .inl ⟨s,k,h⟩);exact .inr ⟨s,k,h⟩
 rintro(⟨s,k,h⟩|⟨s,k,h⟩)
 (·exact⟨s,k,List.mem_append_left _ h⟩);exact⟨s,k,List.mem_append_right _ h⟩
theorem l_ (a b:List dV):vP (a++b)=vP a++vP b:=by simp[vP]
theorem jC {l:List cw} {k:ByteArray} (h:¬kf l k):dQ l k=[]:=by
 induction l with
 |nil=>rfl
 |cons y l ih=>
  rw[ia];rw[if_neg (fun e=>h ⟨y,by simp,e⟩)];exact ih fun⟨z,hz,e⟩=>h ⟨z,by simp[hz],e⟩
theorem AG {l:List cw} {k:ByteArray} (h:kf l k):∃ x∈l,x.kind=k∧dQ l k=x.steps:=by
 induction l with
 |nil=>obtain⟨y,hy,_⟩:=h;cases hy
 |cons y l ih=>
  rw[ia];by_cases e:y.kind=k
  (·exact⟨y,by simp,e,by rw[if_pos e]⟩);rw[if_neg e];obtain⟨z,hz,ez⟩:=h;have hz':z∈l:=by
   rcases List.mem_cons.1 hz with rfl|hz
   (·exact absurd ez e);exact hz
  obtain⟨x,hx,hk,hs⟩:=ih ⟨z,hz',ez⟩;exact⟨x,by simp[hx],hk,hs⟩
theorem qO {l:List cw} (hn:(l.map (·.kind)).Nodup) {x:cw} (hx:x∈l):dQ l x.kind=x.steps:=by
 induction l with
 |nil=>cases hx
 |cons y l ih=>
  rw[List.map_cons,List.nodup_cons]at hn;rw[ia];rcases List.mem_cons.1 hx with rfl|hx
  (·rw[if_pos rfl]);rw[if_neg (fun e=>hn.1 (List.mem_map.2 ⟨x,hx,e.symm⟩))];exact ih hn.2 hx
theorem tX (a b:List cw) (k:ByteArray):dQ (a++b) k=if kf a k then dQ a k else dQ b k:=by
 induction a with
 |nil=>simp[kf]
 |cons y a ih=>
  rw[List.cons_append];rw[ia,ia];by_cases e:y.kind=k
  (·rw[if_pos e,if_pos ⟨y,by simp,e⟩,if_pos e]);rw[if_neg e,ih,if_neg e];have:kf (y :: a) k↔kf a k:=⟨fun⟨z,hz,ez⟩=>by
   rcases List.mem_cons.1 hz with rfl|hz
   (·exact absurd ez e);exact⟨z,hz,ez⟩,fun⟨z,hz,ez⟩=>⟨z,by simp[hz],ez⟩⟩
  simp only[this]
theorem Iw (a b:List cw) (k:ByteArray) (h:kf a k):dQ (a.map (jt b)) k=dQ a k++dQ b k:=by
 induction a with
 |nil=>obtain⟨y,hy,_⟩:=h;cases hy
 |cons y a ih=>
  rw[List.map_cons,ia,ia];by_cases e:y.kind=k
  (·rw[if_pos (show(jt b y).kind=k from e),if_pos e];subst e;rfl);rw[if_neg (show ¬(jt b y).kind=k from e),if_neg e];obtain⟨z,hz,ez⟩:=h;have hz':z∈a:=by
   rcases List.mem_cons.1 hz with rfl|hz
   (·exact absurd ez e);exact hz
  exact ih ⟨z,hz',ez⟩
theorem Ea (b:List cw) (f:cw→Bool) (k:ByteArray) (h:∀ x∈b,x.kind=k→f x=true):dQ (b.filter f) k=dQ b k:=by
 induction b with
 |nil=>rfl
 |cons y b ih=>
  have ih:=ih fun x hx=>h x (by simp[hx]);by_cases e:y.kind=k
  (·rw[List.filter_cons,if_pos (h y aj e)];simp[dQ,e]);rw[List.filter_cons];split
  (·simp[dQ,e,ih]);rw[ih];simp[dQ,e]
theorem uK {a b:List cw} {k:ByteArray}:kf (a.map (jt b)) k↔kf a k:=by
 unfold kf;constructor
 (·rintro⟨y,hy,e⟩;obtain⟨z,hz,rfl⟩:=List.mem_map.1 hy;exact⟨z,hz,e⟩);rintro⟨z,hz,e⟩;exact⟨jt b z,List.mem_map.2 ⟨z,hz,rfl⟩,e⟩
theorem TH {a b:List cw} {k:ByteArray}:kf (fQ a b) k↔kf a k∨kf b k:=by
 unfold fQ;constructor
 ·rintro⟨y,hy,e⟩;rcases List.mem_append.1 hy with hy|hy
  (·exact .inl (uK.1 ⟨y,hy,e⟩));exact .inr ⟨y,(List.mem_filter.1 hy).1,e⟩
 intro h;by_cases ha:kf a k
 (·obtain⟨y,hy,e⟩:=uK (b:=b).2 ha;exact⟨y,List.mem_append_left _ hy,e⟩);obtain⟨y,hy,e⟩:=h.resolve_left ha;exact⟨y,List.mem_append_right _ (List.mem_filter.2 ⟨hy,by rw[e];simpa using ha⟩),e⟩
theorem oO (a b:List cw) (k:ByteArray):dQ (fQ a b) k=dQ a k++dQ b k:=by
 unfold fQ;rw[tX];by_cases h:kf a k
 (·rw[if_pos (uK.2 h),Iw a b k h]);rw[if_neg (fun q=>h (uK.1 q)),jC h,List.nil_append,Ea];intro x _ e;rw[e];simpa using h
theorem Ix (a b c:List cw):fQ (fQ a b) c=fQ a (fQ b c):=by
 have e1:fQ (fQ a b) c=(fQ a b).map (jt c)++c.filter fun x=>decide (¬kf (fQ a b) x.kind):=rfl;have e2:fQ a (fQ b c)=a.map (jt (fQ b c))++(fQ b c).filter fun x=>decide (¬kf a x.kind):=rfl;rw[e1,e2];unfold fQ;rw[List.map_append,List.map_map,List.filter_append,List.append_assoc,List.filter_filter];congr 1
 (·apply List.map_congr_left;intro y _;simp only[Function.comp,jt];rw[List.append_assoc, ← oO];rfl);congr 1
 (·rw[List.filter_map];congr 1);apply List.filter_congr;intro x _;have h1:=TH (a:=a) (b:=b) (k:=x.kind);unfold fQ at h1;rw[← Bool.decide_and];apply decide_eq_decide.2;rw[h1];constructor
 (·intro h;exact⟨fun q=>h (.inl q),fun q=>h (.inr q)⟩);rintro⟨p,q⟩ (h|h)
 (·exact p h);exact q h
theorem OL {a b c:List cw}:ic (fQ a b) c↔ic a c∨ic b c:=by
 unfold ic;constructor
 ·rintro⟨x,hx,h⟩;rw[oO,l_,zC]at h;rcases h with h|h
  (·exact .inl ⟨x,hx,h⟩);exact .inr ⟨x,hx,h⟩
 rintro(⟨x,hx,h⟩|⟨x,hx,h⟩)
 (·exact⟨x,hx,by rw[oO,l_,zC];exact .inl h⟩);exact⟨x,hx,by rw[oO,l_,zC];exact .inr h⟩
theorem LG {a b c:List cw} (hn:(c.map (·.kind)).Nodup):ic a (fQ b c)↔ic a b∨ic a c:=by
 unfold ic;constructor
 ·rintro⟨x,hx,h⟩;rcases List.mem_append.1 hx with hx|hx
  ·obtain⟨y,hy,rfl⟩:=List.mem_map.1 hx;simp only[jt]at h;rw[l_,vQ]at h;rcases h with h|h
   (·exact .inl ⟨y,hy,h⟩);by_cases hk:kf c y.kind
   (·obtain⟨z,hz,e,es⟩:=AG hk;exact .inr ⟨z,hz,by rw[e, ← es];exact h⟩);rw[jC hk]at h;obtain⟨s,_,hs⟩:=h;simp[vP]at hs
  exact .inr ⟨x,(List.mem_filter.1 hx).1,h⟩
 rintro(⟨y,hy,h⟩|⟨x,hx,h⟩)
 (·exact⟨jt c y,List.mem_append_left _ (List.mem_map.2 ⟨y,hy,rfl⟩),by simp only[jt];rw[l_,vQ];exact .inl h⟩);by_cases hk:kf b x.kind
 (·obtain⟨y,hy,e⟩:=hk;refine⟨jt c y,List.mem_append_left _ (List.mem_map.2 ⟨y,hy,rfl⟩),?_⟩;simp only[jt];rw[l_,vQ,e,qO hn hx];exact .inr h);exact⟨x,List.mem_append_right _ (List.mem_filter.2 ⟨hx,by simpa using hk⟩),h⟩
theorem Eb:∀ (b a:List cw),(b.map (·.kind)).Nodup→(a.map (·.kind)).Nodup→(jW a b).1=fQ a b∧((jW a b).2=true↔ic a b)
 |[],a,_,_=>by
  refine⟨?_,?_⟩
  (·show a=a.map (jt [])++[];rw[List.append_nil];(conv=>lhs;rw[← List.map_id a]);apply List.map_congr_left;intro y _;simp[jt,dQ]);show false=true↔_;simp[ic]
 |x :: l,a,hb,ha=>by
  rw[List.map_cons,List.nodup_cons]at hb;have hx:∀ y∈l,y.kind≠x.kind:=fun y hy e=>hb.1 (List.mem_map.2 ⟨y,hy,e⟩);have hxl:¬kf l x.kind:=fun⟨y,hy,e⟩=>hx y hy e;unfold jW;cases hf:a.findIdx? (fun y=>y.kind==x.kind)with
  |none=>
   (have hno:∀ y∈a,y.kind≠x.kind:=fun y hy=>by simpa using List.findIdx?_eq_none_iff.1 hf y hy);have hnk:¬kf a x.kind:=fun⟨y,hy,e⟩=>hno y hy e;obtain⟨h1,h2⟩:=Eb l (a++[x]) hb.2 (by
    rw[List.map_append,List.nodup_append];refine⟨ha,by simp,fun p hp q hq e=>?_⟩;obtain⟨y,hy,rfl⟩:=List.mem_map.1 hp;simp at hq;exact hno y hy (e.trans hq))
   dsimp only;refine⟨h1.trans ?_,h2.trans ?_⟩
   ·unfold fQ;rw[List.map_append,List.filter_cons,if_pos (by simpa using hnk),List.append_assoc];congr 1
    (·apply List.map_congr_left;intro y hy;simp only[jt,dQ];rw[if_neg (fun e=>hno y hy e.symm)]);show jt l x :: _=_;have e1:jt l x=x:=(by simp[jt,jC hxl]);rw[e1];congr 1;apply List.filter_congr;intro y hy;apply decide_eq_decide.2;constructor
    (·intro h q;obtain⟨z,hz,e⟩:=q;exact h ⟨z,by simp[hz],e⟩);rintro h ⟨z,hz,e⟩;rcases List.mem_append.1 hz with hz|hz
    (·exact h ⟨z,hz,e⟩);simp at hz;subst hz;exact hx y hy e.symm
   unfold ic;have e0:∀ y∈l,dQ (a++[x]) y.kind=dQ a y.kind:=fun y hy=>by
    rw[tX];by_cases hk:kf a y.kind
    (·rw[if_pos hk]);rw[if_neg hk,jC hk];simp[dQ,(hx y hy).symm]
   constructor
   (·rintro⟨y,hy,h⟩;exact⟨y,by simp[hy],by rw[← e0 y hy];exact h⟩);rintro⟨y,hy,h⟩;rcases List.mem_cons.1 hy with rfl|hy
   (·rw[jC hnk]at h;obtain⟨s,hs,_⟩:=h;simp[vP]at hs);exact⟨y,hy,by rw[e0 y hy];exact h⟩
  |some k=>
   obtain⟨hk,hp,hpn⟩:=List.findIdx?_eq_some_iff_getElem.1 hf;have uQ:a[k].kind=x.kind:=(by simpa using hp);clear hpn hp;have hg:a.getD k ⟨bs [],[]⟩=a[k]:=(by simp[hk]);dsimp only;rw[hg];have hmap:(a.set k ⟨a[k].kind,a[k].steps++x.steps⟩).map (·.kind)=a.map (·.kind):=by
    rw[List.map_set];apply List.ext_getElem
    (·simp);intro i h1 h2;rw[List.getElem_set];split
    (·(next e=>subst e;simp));rfl
   obtain⟨h1,h2⟩:=Eb l (a.set k ⟨a[k].kind,a[k].steps++x.steps⟩) hb.2 (by rw[hmap];exact ha);have hone:∀ (i:Nat) (hi:i<a.length),a[i].kind=x.kind→i=k:=fun i hi e=>oQ ha (i:=i) (j:=k) aad (by simpa using hk) (by simp[e,uQ]);have hhas:∀ q,kf (a.set k ⟨a[k].kind,a[k].steps++x.steps⟩) q↔kf a q:=fun q=>by
    (have e:∀ l:List cw,kf l q↔q∈l.map (·.kind):=fun l=>by simp[kf]);rw[e,e,hmap]
   have hst:∀ q,q≠x.kind→dQ (a.set k ⟨a[k].kind,a[k].steps++x.steps⟩) q=dQ a q:=fun q hq=>by
    clear h1 h2 hhas hone hmap hg hf;induction a generalizing k with
    |nil=>rfl
    |cons y a ih=>
     cases k with
     |zero=>
      have hy:y.kind=x.kind:=(by simpa using uQ);simp only[List.set_cons_zero,List.getElem_cons_zero,dQ];rw[hy,if_neg hq.symm,if_neg hq.symm]
     |succ k=>
      simp only[List.set_cons_succ,List.getElem_cons_succ,dQ];rw[List.map_cons,List.nodup_cons]at ha;rw[ih ha.2 k (by simpa using hk) (by simpa using uQ)]
   have hsx:dQ a x.kind=a[k].steps:=(by rw[← uQ];exact qO ha (List.getElem_mem hk));refine⟨h1.trans ?_,?_⟩
   ·unfold fQ;rw[List.filter_cons,if_neg (by simpa using ⟨a[k],List.getElem_mem hk,uQ⟩)];congr 1
    ·apply List.ext_getElem
     (·simp);intro i i1 i2;have hi:i<a.length:=(by simpa using i2);simp only[List.getElem_map,List.getElem_set];by_cases e:k=i
     (·subst e;rw[if_pos rfl];simp only[jt,dQ];rw[uQ,if_pos rfl,jC hxl,List.append_nil]);rw[if_neg e];simp only[jt,dQ];rw[if_neg (fun q=>e (hone i hi q.symm).symm)]
    apply List.filter_congr;intro y _;apply decide_eq_decide.2;rw[hhas]
   rw[Bool.or_eq_true,h2,LF];show nO (vP a[k].steps) (vP x.steps)∨_↔_;unfold ic;constructor
   ·rintro(h|⟨y,hy,h⟩)
    (·exact⟨x,by simp,by rw[hsx];exact h⟩);exact⟨y,by simp[hy],by rw[← hst _ (hx y hy)];exact h⟩
   rintro⟨y,hy,h⟩;rcases List.mem_cons.1 hy with rfl|hy
   (·rw[hsx]at h;exact .inl h);exact .inr ⟨y,hy,by rw[hst _ (hx y hy)];exact h⟩
section
theorem data_append (a b:ByteArray):(a++b).data.toList=a.data.toList++b.data.toList:=by simp[ByteArray.data_append]
theorem XK {a b:ByteArray} (h:a.data.toList=b.data.toList):a=b:=by
 cases a;cases b;congr 1;exact Array.toList_inj.1 h
theorem LH (p s:ByteArray):(er p s).data.toList=p.data.toList++95 :: s.data.toList:=by
 unfold er;rw[data_append,data_append];simp[bs]
theorem Ec {p a b:ByteArray} (h:er p a=er p b):a=b:=by
 have:=congrArg (fun x=>x.data.toList) h;simp only[LH]at this;exact XK (List.cons.inj (List.append_cancel_left this)).2
theorem eA (s:ByteArray):s.data.toList.length=s.size:=by simp
theorem word_no:∀ w∈words,(95:UInt8)∉w:=by decide
theorem kg {p s:ByteArray} (hp:cT p=true) (hs:cT s=true) (hl:(er p s).size≤20):cT (er p s)=true:=by
 have h1:=LH p s;have h2:=eA (er p s);unfold cT at hp hs ⊢;rw[Bool.and_eq_true]at hp hs ⊢;refine⟨?_,?_⟩
 ·rw[h1]at h2 ⊢;unfold mq at hp hs;cases e:p.data.toList with
  |nil=>rw[e]at hp;simp at hp
  |cons c r=>
   rw[e]at hp h2;dsimp only at hp;simp only[Bool.and_eq_true]at hp;have hs2:s.data.toList.all mo=true:=by
    cases e2:s.data.toList with
    |nil=>rfl
    |cons d t=>
     rw[e2]at hs;dsimp only at hs;simp only[Bool.and_eq_true]at hs;exact hs.1.2
   show mq (c :: (r++95 :: s.data.toList))=true;unfold mq;simp only[Bool.and_eq_true,decide_eq_true_eq];refine⟨⟨hp.1.1.1,?_⟩,?_⟩
   (·simp at h2 ⊢;omega);rw[← List.cons_append,List.all_append,hp.1.2,List.all_cons,hs2];rfl
 unfold zG;rw[h1];cases e:words.contains (p.data.toList++95 :: s.data.toList)with
 |false=>rfl
 |true=>exact absurd (show(95:UInt8)∈p.data.toList++95 :: s.data.toList by simp) (word_no _ (by simpa using e))
theorem TI {op:Int}:jQ op=true↔op=1∨op=2∨op=3:=by simp[jQ,or_assoc]
theorem Ed (p:ByteArray):∀ l:List cD,(kI p l).length=l.length
 |[]=>by simp[kI]
 |x :: l=>by simp[kI,Ed p l]
mutual
theorem AH (p:ByteArray):∀ x:cD,cU (kP p x)=cU x
 | .mk _ _ _ _ l=>by simp only[kP,cU,xY p l]
theorem xY (p:ByteArray):∀ l:List cD,eC (kI p l)=eC l
 |[]=>by simp only[kI,eC]
 |x :: l=>by simp only[kI,eC,AH p x,xY p l]
end
mutual
theorem AJ (p:ByteArray):∀ x:cD,fM (kP p x)=fM x
 | .mk _ _ _ _ l=>by simp only[kP,fM,xZ p l]
theorem xZ (p:ByteArray):∀ l:List cD,gJ (kI p l)=gJ l
 |[]=>by simp only[kI,gJ]
 |x :: l=>by simp only[kI,gJ,AJ p x,xZ p l]
end
theorem XL {p:ByteArray} (hp:cT p=true) {op n:Int} {unit name:ByteArray} {k:Nat} (h:mA op n unit name k=true) (hl:jQ op=true→(er p name).size≤20):mA op n unit (if jQ op then er p name else name) k=true:=by
 cases hn:jQ op with
 |false=>simpa using h
 |true=>
  rw[if_pos rfl];have hl:=hl hn;have key:cT name=true→cT (er p name)=true:=fun hf=>kg hp hf hl;unfold mA at h ⊢;rcases TI.1 hn with rfl|rfl|rfl;all_goals
   simp at h ⊢;(first|exact⟨h.1,key h.2.1,h.2.2⟩|exact⟨h.1,⟨key h.2.1.1,h.2.1.2⟩,h.2.2⟩)
mutual
theorem Ee {p:ByteArray} (hp:cT p=true):∀ x:cD,eF x=true→(∀ n∈iT x,(er p n).size≤20)→eF (kP p x)=true
 | .mk op n unit name l,h,hl=>by
  simp only[eF,Bool.and_eq_true]at h;simp only[iT,List.mem_append]at hl;simp only[kP,eF,Bool.and_eq_true,Ed];exact⟨XL hp h.1 fun hn=>hl name (.inl (by rw[if_pos hn];simp)),AK hp l h.2 fun n hn=>hl n (.inr hn)⟩
theorem AK {p:ByteArray} (hp:cT p=true):∀ l:List cD,iK l=true→(∀ n∈yt l,(er p n).size≤20)→iK (kI p l)=true
 |[],_,_=>by simp only[kI,iK]
 |x :: l,h,hl=>by
  simp only[iK,Bool.and_eq_true]at h;simp only[yt,List.mem_append]at hl;simp only[kI,iK,Bool.and_eq_true];exact⟨Ee hp x h.1 fun n hn=>hl n (.inl hn),AK hp l h.2 fun n hn=>hl n (.inr hn)⟩
end
theorem Gi {p:ByteArray} (hp:cT p=true) {x:cD} (h:fj x=true) (hl:∀ n∈iT x,(er p n).size≤20):fj (kP p x)=true:=by
 unfold fj at h ⊢;rw[AH,AJ];rw[Bool.and_eq_true]at h ⊢;exact⟨h.1,Ee hp x h.2 hl⟩
theorem vR {p:ByteArray} (hp:cT p=true) {l:List ByteArray} {a b:Nat} (h:gy l a b=true) (hl:∀ n∈l,(er p n).size≤20):gy (l.map (er p)) a b=true:=by
 unfold gy at h ⊢;rw[Bool.and_eq_true]at h ⊢;refine⟨by rw[List.length_map];exact h.1,?_⟩;rw[List.all_eq_true]at h ⊢;intro n hn;obtain⟨m,hm,rfl⟩:=List.mem_map.1 hn;exact kg hp (h.2 m hm) (hl m hm)
theorem XM {p:ByteArray} (hp:cT p=true) {x:dV} (h:dO x=true) (hl:∀ n∈kj x,(er p n).size≤20):dO (tv p x)=true:=by
 unfold dO at h ⊢;split at h
 (·cases h);next q=>
 rw[if_neg (show ¬((tv p x).kind<0∨9≤(tv p x).kind)from q)];unfold kj at hl;simp only[List.mem_append]at hl;simp only[Bool.and_eq_true,tv,List.length_map]at h ⊢;obtain⟨⟨⟨⟨h1,h2⟩,h3⟩,h4⟩,h5⟩:=h;refine⟨⟨⟨⟨vR hp h1 fun n hn=>hl n (.inl (.inl (.inl hn))),vR hp h2 fun n hn=>hl n (.inl (.inl (.inr hn)))⟩,vR hp h3 fun n hn=>hl n (.inl (.inr hn))⟩,?_⟩,h5⟩;by_cases hs:(shapeOf x.kind).name=true
 ·rw[if_pos hs]at h4;show(if(shapeOf x.kind).name then cT (if gz x then er p x.name else x.name)else fR (if gz x then er p x.name else x.name))=true;rw[if_pos hs];cases hq:gz x with
  |false=>simpa using h4
  |true=>exact kg hp h4 (hl _ (.inr (by rw[hq];simp)))
 rw[if_neg hs]at h4;show(if(shapeOf x.kind).name then cT (if gz x then er p x.name else x.name)else fR (if gz x then er p x.name else x.name))=true;rw[if_neg hs];(have:gz x=false:=by unfold gz;rw[h4];rfl);rw[this];exact h4
def qG (s:bY):List ByteArray:=bZ s++usedNames s++iF s
theorem LI {p:ByteArray} {l:List ByteArray}:qq p l=true↔∃ n∈l,20<(er p n).size:=by simp[qq]
theorem Ef (p:ByteArray) (s:bY):bZ (iy p s)=(bZ s).map (er p):=by simp[bZ,iy,Function.comp_def]
theorem jk {s:bY} (R:Nu s) (hn:((uses s).map (·.1)).Nodup) (hk:(s.bX.map (·.kind)).Nodup):cN s=true:=by
 refine(jZ s).2 ⟨R.name,Bz ?_ ?_ hn aj,R.len,Bz ?_ ?_ ?_ aj⟩
 ·rw[List.all_eq_true];intro u hu;simp only[uses,ei,eE,List.mem_append,List.mem_map]at hu;rcases hu with(((⟨x,hx,rfl⟩|⟨x,hx,rfl⟩)|⟨x,hx,rfl⟩)|⟨x,hx,rfl⟩)|((⟨x,hx,rfl⟩|⟨x,hx,rfl⟩)|⟨x,hx,rfl⟩)
  (·exact(R.imports x hx).2)
  (·exact(R.inputs x hx).2)
  (·exact(R.b9 x hx).2)
  (·exact(R.stores x hx).2)
  (·exact(R.tables x hx).2)
  (·exact(R.funcs x hx).2);exact(R.cells x hx).2
 ·intro u hu;simp only[uses,ei,eE,List.mem_append,List.mem_map]at hu;rcases hu with(((⟨x,hx,rfl⟩|⟨x,hx,rfl⟩)|⟨x,hx,rfl⟩)|⟨x,hx,rfl⟩)|((⟨x,hx,rfl⟩|⟨x,hx,rfl⟩)|⟨x,hx,rfl⟩)
  (·exact(R.imports x hx).1)
  (·exact(R.inputs x hx).1)
  (·exact(R.b9 x hx).1)
  (·exact(R.stores x hx).1)
  (·exact(R.tables x hx).1)
  (·exact(R.funcs x hx).1);exact(R.cells x hx).1
 (·rw[List.all_eq_true];intro u hu;obtain⟨x,hx,rfl⟩:=List.mem_map.1 hu;exact(R.bX x hx).2)
 (·intro u hu;obtain⟨x,hx,rfl⟩:=List.mem_map.1 hu;exact(R.bX x hx).1);rw[List.map_map];exact hk
theorem ou {s:bY} (h:cN s=true):((uses s).map (·.1)).Nodup∧(s.bX.map (·.kind)).Nodup:=by
 obtain⟨h1,h2,h3,h4⟩:=(jZ s).1 h;refine⟨(mK h2).2.2.1,?_⟩;have:=(mK h4).2.2.1;rw[List.map_map]at this;exact this
theorem Bl (p:ByteArray) (s:bY):(uses (iy p s)).map (·.1)=((uses s).map (·.1)).map (er p):=by simp[uses,ei,eE,iy,Function.comp_def]
theorem Fe (p:ByteArray) (s:bY):(uses (iy p s)).length=(uses s).length:=by simp[uses,ei,eE,iy]
theorem sK {p:ByteArray} {s:bY} (hp:cT p=true) (h:cN s=true) (hl:∀ n∈qG s,(er p n).size≤20):cN (iy p s)=true:=by
 have R:=dm h;have N:=ou h;have hI:∀ n∈bZ s,(er p n).size≤20:=fun n hn=>hl n (List.mem_append_left _ (List.mem_append_left _ hn));have hU:∀ r∈s.bX,∀ y∈r.steps,∀ n∈kj y,(er p n).size≤20:=fun r hr y hy n hn=>hl n (List.mem_append_left _ (List.mem_append_right _ (List.mem_flatMap.2 ⟨r,hr,List.mem_flatMap.2 ⟨y,hy,hn⟩⟩)));have hE1:∀ f∈s.funcs,(∀ q∈f.params,(er p q.name).size≤20)∧∀ n∈iT f.body,(er p n).size≤20:=fun f hf=>
  ⟨fun q hq=>hl _ (List.mem_append_right _ (List.mem_append_left _ (List.mem_flatMap.2 ⟨f,hf,List.mem_append_left _ (List.mem_map.2 ⟨q,hq,rfl⟩)⟩))),fun n hn=>hl n (List.mem_append_right _ (List.mem_append_left _ (List.mem_flatMap.2 ⟨f,hf,List.mem_append_right _ hn⟩)))⟩
 have hE2:∀ c∈s.cells,∀ n∈iT c.iY,(er p n).size≤20:=fun c hc n hn=>hl n (List.mem_append_right _ (List.mem_append_right _ (List.mem_flatMap.2 ⟨c,hc,hn⟩)));simp only[bZ,List.mem_append]at hI;refine jk ⟨R.name,?_,?_,?_,?_,?_,?_,?_,?_,?_⟩ ?_ ?_
 (·intro x hx;obtain⟨y,hy,rfl⟩:=List.mem_map.1 hx;exact⟨kg hp (R.imports y hy).1 (hI _ (.inl (.inl (.inl (.inl (.inl (.inl (List.mem_map.2 ⟨y,hy,rfl⟩)))))))),(R.imports y hy).2⟩)
 (·intro x hx;obtain⟨y,hy,rfl⟩:=List.mem_map.1 hx;exact⟨kg hp (R.inputs y hy).1 (hI _ (.inl (.inl (.inl (.inl (.inl (.inr (List.mem_map.2 ⟨y,hy,rfl⟩)))))))),(R.inputs y hy).2⟩)
 (·intro x hx;obtain⟨y,hy,rfl⟩:=List.mem_map.1 hx;exact⟨kg hp (R.b9 y hy).1 (hI _ (.inl (.inr (List.mem_map.2 ⟨y,hy,rfl⟩)))),(R.b9 y hy).2⟩)
 (·intro x hx;obtain⟨y,hy,rfl⟩:=List.mem_map.1 hx;exact⟨kg hp (R.stores y hy).1 (hI _ (.inr (List.mem_map.2 ⟨y,hy,rfl⟩))),(R.stores y hy).2⟩)
 (·intro x hx;obtain⟨y,hy,rfl⟩:=List.mem_map.1 hx;have hf:=kg hp (R.tables y hy).1 (hI _ (.inl (.inl (.inl (.inl (.inr (List.mem_map.2 ⟨y,hy,rfl⟩)))))));refine⟨hf,?_⟩;have ht:=(R.tables y hy).2;unfold fG at ht ⊢;unfold cT at hf;simp only[Bool.and_eq_true]at ht hf ⊢;exact⟨⟨⟨ht.1.1.1,hf.1⟩,ht.1.2⟩,ht.2⟩)
 (·intro x hx;obtain⟨y,hy,rfl⟩:=List.mem_map.1 hx;refine⟨kg hp (R.funcs y hy).1 (hI _ (.inl (.inl (.inl (.inr (List.mem_map.2 ⟨y,hy,rfl⟩)))))),?_⟩;have ht:=(R.funcs y hy).2;unfold jU at ht ⊢;simp only[Bool.and_eq_true,List.length_map]at ht ⊢;refine⟨?_,ht.2.1,Gi hp ht.2.2 (hE1 y hy).2⟩;rw[List.all_eq_true]at ht ⊢;intro q hq;obtain⟨q0,h0,rfl⟩:=List.mem_map.1 hq;have:=ht.1 q0 h0;unfold kX at this ⊢;rw[Bool.and_eq_true]at this ⊢;exact⟨kg hp this.1 ((hE1 y hy).1 q0 h0),this.2⟩)
 (·intro x hx;obtain⟨y,hy,rfl⟩:=List.mem_map.1 hx;refine⟨kg hp (R.cells y hy).1 (hI _ (.inl (.inl (.inr (List.mem_map.2 ⟨y,hy,rfl⟩))))),?_⟩;have ht:=(R.cells y hy).2;unfold jE at ht ⊢;rw[Bool.and_eq_true]at ht ⊢;exact⟨ht.1,Gi hp ht.2 (hE2 y hy)⟩)
 (·intro x hx;obtain⟨y,hy,rfl⟩:=List.mem_map.1 hx;refine⟨(R.bX y hy).1,?_⟩;have ht:=(R.bX y hy).2;unfold dW at ht ⊢;rw[Bool.and_eq_true]at ht ⊢;refine⟨by rw[List.length_map];exact ht.1,?_⟩;rw[List.all_eq_true]at ht ⊢;intro z hz;obtain⟨z0,h0,rfl⟩:=List.mem_map.1 hz;exact XM hp (ht.2 z0 h0) (hU y hy z0 h0))
 (·rw[Fe];simpa [iy]using R.len)
 (·rw[Bl];rw[List.nodup_iff_pairwise_ne,List.pairwise_map];exact List.Pairwise.imp (fun h q=>h (Ec q)) N.1);(have:(iy p s).bX.map (·.kind)=s.bX.map (·.kind):=by simp[iy,Function.comp_def]);rw[this];exact N.2
theorem uL {s:bY} {p:ByteArray} (hr:cN s=true):((dG s p).1=0↔cT p=true∧∀ n∈qG s,(er p n).size≤20)∧((dG s p).1=0→dG s p=(0,iy p s)):=by
 unfold dG;rw[hr];cases hp:cT p with
 |false=>simp
 |true=>
  simp only[Bool.not_true,Bool.or_self,Bool.false_eq_true,if_false];have e:bZ s++usedNames s++iF s=qG s:=rfl;rw[e];cases hL:qq p (qG s)with
  |true=>
   obtain⟨n,hn,h⟩:=LI.1 hL;simp only[if_true];refine⟨⟨fun h=>absurd h ag,fun⟨_,k⟩=>absurd (k n hn) af⟩,fun h=>absurd h ag⟩
  |false=>
   simp only[Bool.false_eq_true,if_false,true_and];refine⟨⟨fun _ n hn=>?_,fun _=>trivial⟩,fun _=>trivial⟩;by_cases q:20<(er p n).size
   (·rw[LI.2 ⟨n,hn,q⟩]at hL;cases hL);omega
theorem Iy {s x:bY} {p:ByteArray} (h:dG s p=(0,x)):cN x=true:=by
 have hr:cN s=true:=by
  cases q:cN s with
  |true=>rfl
  |false=>rw[dG,q]at h;simp at h
 have h0:(dG s p).1=0:=(by rw[h]);obtain⟨k1,k2⟩:=uL (p:=p) hr;have:=k2 h0;rw[h]at this;have e:x=iy p s:=(Prod.mk.inj this).2;rw[e];exact sK (k1.1 h0).1 hr (k1.1 h0).2
end
def kL (a b:bY):bY:=⟨a.name,a.imports++b.imports,a.inputs++b.inputs,a.tables++b.tables,a.funcs++b.funcs,a.cells++b.cells,a.b9++b.b9,a.stores++b.stores,fQ a.bX b.bX⟩
def kH (a b:bY):Prop:=∃ f∈a.funcs,∃ q∈f.params,∃ t∈b.tables,t.name=q.name
def mP (a b:bY):Prop:=nO (bZ a) (bZ b)∨kH a b∨kH b a∨ic a.bX b.bX
theorem TJ (a b:bY):jf a b=true↔kH a b:=by simp[jf,kH]
theorem ov {a b:bY} (ha:cN a=true) (hb:cN b=true):(mP a b→eM a b=(5,gH))∧(¬mP a b→eM a b=if cN (kL a b)then(0,kL a b)else(6,gH)):=by
 obtain⟨e1,e2⟩:=Eb b.bX a.bX (ou hb).2 (ou ha).2;have hT:(mF (bZ a) (bZ b)||jf a b||jf b a||(jW a.bX b.bX).2)=true↔mP a b:=by
  simp only[Bool.or_eq_true,LF,TJ,e2,mP,or_assoc]
 unfold eM;simp only[ha,hb,Bool.not_true,Bool.or_self,Bool.false_eq_true,if_false,e1];constructor
 (·intro h;rw[if_pos (hT.2 h)]);intro h;rw[if_neg (fun q=>h (hT.1 q))];rfl
theorem BQ {a b x:bY} (h:eM a b=(0,x)):cN a=true∧cN b=true∧¬mP a b∧x=kL a b∧cN x=true:=by
 have ha:cN a=true:=by
  cases q:cN a with
  |true=>rfl
  |false=>rw[eM,q]at h;simp at h
 have hb:cN b=true:=by
  cases q:cN b with
  |true=>rfl
  |false=>rw[eM,q]at h;simp at h
 obtain⟨k1,k2⟩:=ov ha hb;by_cases ht:mP a b
 (·rw[k1 ht]at h;exact absurd (Prod.mk.inj h).1 ag);rw[k2 ht]at h;split at h
 ·next hr=>
  have:=(Prod.mk.inj h).2;subst this;exact⟨ha,hb,ht,rfl,hr⟩
 exact absurd (Prod.mk.inj h).1 ag
theorem Eg {a:List ByteArray}:¬nO a []:=fun⟨s,_,h⟩=>by cases h
theorem vg {a:List ByteArray}:¬nO [] a:=fun⟨s,h,_⟩=>by cases h
def bare (n:ByteArray):bY:=⟨n,[],[],[],[],[],[],[],[]⟩
theorem sL {n:ByteArray} (h:cT n=true):cN (bare n)=true:=(jZ _).2 ⟨h,rfl,(show 0≤100 by decide),rfl⟩
theorem OM (a:List cw):fQ a []=a:=by
 show a.map (jt [])++[]=a;rw[List.append_nil];(conv=>rhs;rw[← List.map_id a]);apply List.map_congr_left;intro y _;simp[jt,dQ]
theorem LJ (a:List cw):fQ [] a=a:=by
 show[]++a.filter _=a;rw[List.nil_append,List.filter_eq_self];intro x _;simp[kf]
theorem join_none {a:bY} {n:ByteArray} (h:cN a=true) (hn:cT n=true):eM a (bare n)=(0,a):=by
 have hT:¬mP a (bare n):=by
  rintro(q|q|q|q)
  (·exact Eg q)
  (·obtain⟨f,_,p,_,t,ht,_⟩:=q;cases ht)
  (·obtain⟨f,hf,_⟩:=q;cases hf);obtain⟨x,hx,_⟩:=q;cases hx
 have e:kL a (bare n)=a:=(by simp[kL,bare,OM]);rw[(ov h (sL hn)).2 hT,e,if_pos h]
theorem TK {a:bY} (h:cN a=true):eM (bare a.name) a=(0,a):=by
 have hn:cT a.name=true:=(dm h).name;have hT:¬mP (bare a.name) a:=by
  rintro(q|q|q|q)
  (·exact vg q)
  (·obtain⟨f,hf,_⟩:=q;cases hf)
  (·obtain⟨f,_,p,_,t,ht,_⟩:=q;cases ht);obtain⟨x,hx,q⟩:=q;exact vg q
 have e:kL (bare a.name) a=a:=(by simp[kL,bare,LJ]);rw[(ov (sL hn) h).2 hT,e,if_pos h]
theorem pK {a b:bY} {n:ByteArray}:n∈bZ (kL a b)↔n∈bZ a∨n∈bZ b:=by
 simp only[bZ,kL,List.map_append,List.mem_append];constructor
 (·rintro(((((((h|h)|(h|h))|(h|h))|(h|h))|(h|h))|(h|h))|(h|h))<;>simp[h]);rintro(((((((h|h)|h)|h)|h)|h)|h)|((((((h|h)|h)|h)|h)|h)|h))<;>simp[h]
theorem tY {a b c:bY}:mP (kL a b) c↔mP a c∨mP b c:=by
 have h1:nO (bZ (kL a b)) (bZ c)↔nO (bZ a) (bZ c)∨nO (bZ b) (bZ c):=by
  unfold nO;constructor
  (·rintro⟨s,h,k⟩;exact(pK.1 h).elim (fun h=> .inl ⟨s,h,k⟩) fun h=> .inr ⟨s,h,k⟩);rintro(⟨s,h,k⟩|⟨s,h,k⟩)
  (·exact⟨s,pK.2 (.inl h),k⟩);exact⟨s,pK.2 (.inr h),k⟩
 have h2:kH (kL a b) c↔kH a c∨kH b c:=by
  unfold kH;constructor
  (·rintro⟨f,hf,r⟩;exact(List.mem_append.1 hf).elim (fun h=> .inl ⟨f,h,r⟩) fun h=> .inr ⟨f,h,r⟩);rintro(⟨f,hf,r⟩|⟨f,hf,r⟩)
  (·exact⟨f,List.mem_append_left _ hf,r⟩);exact⟨f,List.mem_append_right _ hf,r⟩
 have h3:kH c (kL a b)↔kH c a∨kH c b:=by
  unfold kH;constructor
  (·rintro⟨f,hf,q,hq,t,ht,e⟩;exact(List.mem_append.1 ht).elim (fun h=> .inl ⟨f,hf,q,hq,t,h,e⟩) fun h=> .inr ⟨f,hf,q,hq,t,h,e⟩);rintro(⟨f,hf,q,hq,t,ht,e⟩|⟨f,hf,q,hq,t,ht,e⟩)
  (·exact⟨f,hf,q,hq,t,List.mem_append_left _ ht,e⟩);exact⟨f,hf,q,hq,t,List.mem_append_right _ ht,e⟩
 have h4:ic (kL a b).bX c.bX↔ic a.bX c.bX∨ic b.bX c.bX:=OL;unfold mP;rw[h1,h2,h3,h4];constructor
 (·rintro((h|h)|(h|h)|(h|h)|(h|h))<;>simp[h]);rintro((h|h|h|h)|(h|h|h|h))<;>simp[h]
theorem sR {a b c:bY} (hn:(c.bX.map (·.kind)).Nodup):mP a (kL b c)↔mP a b∨mP a c:=by
 have h1:nO (bZ a) (bZ (kL b c))↔nO (bZ a) (bZ b)∨nO (bZ a) (bZ c):=by
  unfold nO;constructor
  (·rintro⟨s,k,h⟩;exact(pK.1 h).elim (fun h=> .inl ⟨s,k,h⟩) fun h=> .inr ⟨s,k,h⟩);rintro(⟨s,k,h⟩|⟨s,k,h⟩)
  (·exact⟨s,k,pK.2 (.inl h)⟩);exact⟨s,k,pK.2 (.inr h)⟩
 have h2:kH (kL b c) a↔kH b a∨kH c a:=by
  unfold kH;constructor
  (·rintro⟨f,hf,r⟩;exact(List.mem_append.1 hf).elim (fun h=> .inl ⟨f,h,r⟩) fun h=> .inr ⟨f,h,r⟩);rintro(⟨f,hf,r⟩|⟨f,hf,r⟩)
  (·exact⟨f,List.mem_append_left _ hf,r⟩);exact⟨f,List.mem_append_right _ hf,r⟩
 have h3:kH a (kL b c)↔kH a b∨kH a c:=by
  unfold kH;constructor
  (·rintro⟨f,hf,q,hq,t,ht,e⟩;exact(List.mem_append.1 ht).elim (fun h=> .inl ⟨f,hf,q,hq,t,h,e⟩) fun h=> .inr ⟨f,hf,q,hq,t,h,e⟩);rintro(⟨f,hf,q,hq,t,ht,e⟩|⟨f,hf,q,hq,t,ht,e⟩)
  (·exact⟨f,hf,q,hq,t,List.mem_append_left _ ht,e⟩);exact⟨f,hf,q,hq,t,List.mem_append_right _ ht,e⟩
 have h4:ic a.bX (kL b c).bX↔ic a.bX b.bX∨ic a.bX c.bX:=LG hn;unfold mP;rw[h1,h2,h3,h4];constructor
 (·rintro((h|h)|(h|h)|(h|h)|(h|h))<;>simp[h]);rintro((h|h|h|h)|(h|h|h|h))<;>simp[h]
theorem TL (a b c:bY):kL (kL a b) c=kL a (kL b c):=by simp[kL,Ix]
theorem join_assoc {a b c ab bc:bY} (h1:eM a b=(0,ab)) (h2:eM b c=(0,bc)):eM ab c=eM a bc:=by
 obtain⟨ha,hb,n1,rfl,r1⟩:=BQ h1;obtain⟨_,hc,n2,rfl,r2⟩:=BQ h2;have hn:=(ou hc).2;by_cases ht:mP a c
 (·rw[(ov r1 hc).1 (tY.2 (.inl ht)),(ov ha r2).1 ((sR hn).2 (.inr ht))]);rw[(ov r1 hc).2 (fun q=>(tY.1 q).elim ht n2),(ov ha r2).2 (fun q=>((sR hn).1 q).elim n1 ht),TL]
def vh (p:ByteArray) (r:cw):cw:=⟨r.kind,r.steps.map (tv p)⟩
theorem x_ (p:ByteArray) (l:List cw) (k:ByteArray):dQ (l.map (vh p)) k=(dQ l k).map (tv p):=by
 induction l with
 |nil=>rfl
 |cons y l ih=>
  rw[List.map_cons,ia,ia];by_cases e:y.kind=k
  (·rw[if_pos (show(vh p y).kind=k from e),if_pos e];rfl);rw[if_neg (show ¬(vh p y).kind=k from e),if_neg e,ih]
theorem TM {p:ByteArray} {l:List cw} {k:ByteArray}:kf (l.map (vh p)) k↔kf l k:=by
 unfold kf;constructor
 (·rintro⟨y,hy,e⟩;obtain⟨z,hz,rfl⟩:=List.mem_map.1 hy;exact⟨z,hz,e⟩);rintro⟨z,hz,e⟩;exact⟨vh p z,List.mem_map.2 ⟨z,hz,rfl⟩,e⟩
theorem LK (p:ByteArray) (a b:List cw):fQ (a.map (vh p)) (b.map (vh p))=(fQ a b).map (vh p):=by
 unfold fQ;rw[List.map_append,List.map_map,List.map_map,List.filter_map];congr 1
 (·apply List.map_congr_left;intro y _;simp only[Function.comp,jt,vh];rw[x_,List.map_append]);congr 1;apply List.filter_congr;intro x _;simp only[Function.comp];apply decide_eq_decide.2;rw[TM];exact Iff.rfl
theorem XN (p:ByteArray) (a b:bY):kL (iy p a) (iy p b)=iy p (kL a b):=by
 have h:=LK p a.bX b.bX;unfold kL iy;simp only[List.map_append];congr 1
theorem Gj (p:ByteArray) (l:List dV):vP (l.map (tv p))=(vP l).map (er p):=by
 induction l with
 |nil=>rfl
 |cons y l ih=>
  unfold vP at ih ⊢;rw[List.map_cons,List.flatMap_cons,List.flatMap_cons,ih,List.map_append,List.map_append];rfl
theorem Gk {p:ByteArray} {a b:List ByteArray}:nO (a.map (er p)) (b.map (er p))↔nO a b:=by
 unfold nO;constructor
 (·rintro⟨s,h,k⟩;obtain⟨x,hx,rfl⟩:=List.mem_map.1 h;obtain⟨y,hy,e⟩:=List.mem_map.1 k;exact⟨x,hx,Ec e▸hy⟩);rintro⟨s,h,k⟩;exact⟨er p s,List.mem_map.2 ⟨s,h,rfl⟩,List.mem_map.2 ⟨s,k,rfl⟩⟩
theorem Eh {p:ByteArray} {a b:bY} (h:kH (iy p a) (iy p b)):kH a b:=by
 obtain⟨f,hf,q,hq,t,ht,e⟩:=h;obtain⟨f0,hf0,rfl⟩:=List.mem_map.1 hf;obtain⟨q0,Vr,rfl⟩:=List.mem_map.1 hq;obtain⟨t0,ht0,rfl⟩:=List.mem_map.1 ht;exact⟨f0,hf0,q0,Vr,t0,ht0,Ec e⟩
theorem OO {p:ByteArray} {a b:bY} (h:mP (iy p a) (iy p b)):mP a b:=by
 rcases h with h|h|h|h
 (·rw[Ef,Ef,Gk]at h;exact .inl h)
 (·exact .inr (.inl (Eh h)))
 (·exact .inr (.inr (.inl (Eh h))));obtain⟨x,hx,h⟩:=h;obtain⟨y,hy,rfl⟩:=List.mem_map.1 hx;have e:(iy p a).bX=a.bX.map (vh p):=rfl;rw[e,x_,Gj]at h;have h':nO ((vP (dQ a.bX y.kind)).map (er p)) (vP (y.steps.map (tv p))):=h;rw[Gj,Gk]at h';exact .inr (.inr (.inr ⟨y,hy,h'⟩))
theorem TN {a b:List cw} (hn:(b.map (·.kind)).Nodup) {n:ByteArray}:n∈(fQ a b).flatMap (fun r=>r.steps.flatMap kj)↔n∈a.flatMap (fun r=>r.steps.flatMap kj)∨n∈b.flatMap (fun r=>r.steps.flatMap kj):=by
 simp only[List.mem_flatMap];constructor
 ·rintro⟨r,hr,y,hy,h⟩;rcases List.mem_append.1 hr with hr|hr
  ·obtain⟨r0,h0,rfl⟩:=List.mem_map.1 hr;rcases List.mem_append.1 hy with hy|hy
   (·exact .inl ⟨r0,h0,y,hy,h⟩);by_cases hk:kf b r0.kind
   (·obtain⟨z,hz,_,es⟩:=AG hk;rw[es]at hy;exact .inr ⟨z,hz,y,hy,h⟩);rw[jC hk]at hy;cases hy
  exact .inr ⟨r,(List.mem_filter.1 hr).1,y,hy,h⟩
 rintro(⟨r,hr,y,hy,h⟩|⟨r,hr,y,hy,h⟩)
 (·exact⟨jt b r,List.mem_append_left _ (List.mem_map.2 ⟨r,hr,rfl⟩),y,List.mem_append_left _ hy,h⟩);by_cases hk:kf a r.kind
 (·obtain⟨z,hz,e⟩:=hk;refine⟨jt b z,List.mem_append_left _ (List.mem_map.2 ⟨z,hz,rfl⟩),y,List.mem_append_right _ ?_,h⟩;rw[e,qO hn hr];exact hy);exact⟨r,List.mem_append_right _ (List.mem_filter.2 ⟨hr,by simpa using hk⟩),y,hy,h⟩
theorem TP {a b:bY} (hn:(b.bX.map (·.kind)).Nodup) {n:ByteArray}:n∈qG (kL a b)↔n∈qG a∨n∈qG b:=by
 have h1:=pK (a:=a) (b:=b) (n:=n);have h2:n∈usedNames (kL a b)↔n∈usedNames a∨n∈usedNames b:=TN hn;have h3:n∈iF (kL a b)↔n∈iF a∨n∈iF b:=by
  simp only[iF,kL,List.flatMap_append,List.mem_append];constructor
  (·rintro((h|h)|(h|h))<;>simp[h]);rintro((h|h)|(h|h))<;>simp[h]
 unfold qG;simp only[List.mem_append,h1,h2,h3];constructor
 (·rintro(((h|h)|(h|h))|(h|h))<;>simp[h]);rintro(((h|h)|h)|((h|h)|h))<;>simp[h]
theorem LL {a b ab:bY} {p:ByteArray} (h:eM a b=(0,ab)):((dG ab p).1=0↔(dG a p).1=0∧(dG b p).1=0)∧((dG ab p).1=0→eM (dG a p).2 (dG b p).2=(0,(dG ab p).2)):=by
 obtain⟨ha,hb,nt,rfl,hr⟩:=BQ h;obtain⟨a1,a2⟩:=uL (p:=p) ha;obtain⟨b1,b2⟩:=uL (p:=p) hb;obtain⟨c1,c2⟩:=uL (p:=p) hr;have hn:=fun n=>TP (a:=a) (b:=b) (n:=n) (ou hb).2;have e:(dG (kL a b) p).1=0↔(dG a p).1=0∧(dG b p).1=0:=by
  rw[a1,b1,c1];constructor
  (·rintro⟨hp,hl⟩;exact⟨⟨hp,fun n h=>hl n ((hn n).2 (.inl h))⟩,⟨hp,fun n h=>hl n ((hn n).2 (.inr h))⟩⟩);rintro⟨⟨hp,h1⟩,_,h2⟩;exact⟨hp,fun n h=>((hn n).1 h).elim (h1 n) (h2 n)⟩
 refine⟨e,fun h0=>?_⟩;obtain⟨ea,eb⟩:=e.1 h0;rw[a2 ea,b2 eb,c2 h0];show eM (iy p a) (iy p b)=(0,iy p (kL a b));have ra:=sK (a1.1 ea).1 ha (a1.1 ea).2;have rb:=sK (b1.1 eb).1 hb (b1.1 eb).2;have rc:=sK (c1.1 h0).1 hr (c1.1 h0).2;rw[(ov ra rb).2 (fun q=>nt (OO q)),XN,if_pos rc]
end Sh
namespace Go.Proofs.YtkfofnjfihfgkaaGreatDoor
open Go Go.RowKit Go.Proofs Sh Kb
section
theorem ya {s:ByteArray} {n:Nat} (h:s.size≤n) (hn:n≤1000):Ms s:=by
 (have:1048576≤maxLen:=by decide);unfold Ms;omega
theorem OP {s:ByteArray} (h:mz s=true):s.size≤400:=by
 unfold mz at h;simp only[Bool.and_eq_true,decide_eq_true_eq]at h;exact h.1
theorem OQ {op n:Int} {u nm:ByteArray} {k:Nat} (h:mA op n u nm k=true):u.size≤400∧nm.size≤20:=by
 have key:∀ {x:ByteArray},fR x=true→x.size=0:=fun h=>mN h;unfold mA at h;split at h
 (·simp only[Bool.and_eq_true]at h;exact⟨OP h.1.1.1.1,by have:=mN h.1.2;omega⟩);split at h
 (·cases h)
 ·next q=>
  have hu:fR u=true:=by simpa using (by simpa using q:_∧_).2
  have hu0:=mN hu
  refine⟨by omega,?_⟩
  repeat' split at h
  all_goals simp only[Bool.and_eq_true]at h
  ·
   exact di h.1
  ·
   exact di h.1
  ·
   exact di h.1.1
  ·
   have:=mN h.1;omega
  ·
   have:=mN h.1;omega
  ·
   have:=mN h.1;omega
  ·
   have:=mN h.1.2;omega
mutual
theorem Gl:∀ x:cD,eF x=true→GJ x
 | .mk op n u nm l,h=>by
  simp only[eF,Bool.and_eq_true]at h;obtain⟨h1,h2⟩:=OQ h.1;exact⟨ya h1 ag,ya h2 ag,Ei l h.2⟩
theorem Ei:∀ l:List cD,iK l=true→Zw l
 |[],_=>trivial
 |x :: l,h=>by
  simp only[iK,Bool.and_eq_true]at h;exact⟨Gl x h.1,Ei l h.2⟩
end
theorem LM {x:cD} (h:fj x=true):GJ x∧cU x≤1000000:=by
 unfold fj at h;simp only[Bool.and_eq_true,decide_eq_true_eq]at h;exact⟨Gl x h.2,by omega⟩
theorem BR {u:ByteArray} {b:Bool} (h:(cI u&&b)=true):Ms u:=by
 rw[Bool.and_eq_true]at h;exact ya (iA h.1) ag
theorem jS {u:ByteArray} (h:cT u=true):Ms u:=ya (di h) ag
theorem Ej {l:List ByteArray} {a b:Nat} (h:gy l a b=true) (hb:b≤100):(∀ s∈l,Ms s)∧l.length≤100:=
 ⟨fun s hs=>jS ((iB h).2 s hs),by have:=(iB h).1;omega⟩
theorem OS {x:dV} (h:dO x=true):yD x∧x.inp.length≤100∧x.o.length≤100∧x.cells.length≤100:=by
 have hm:1048576≤maxLen:=ag;unfold dO at h;split at h
 (·cases h);simp only[Bool.and_eq_true]at h;obtain⟨⟨⟨⟨h1,h2⟩,h3⟩,h4⟩,_⟩:=h;obtain⟨_,s1,s2⟩:=tQ x.kind;obtain⟨a1,a2⟩:=Ej h1 s1;obtain⟨b1,b2⟩:=Ej h2 s2;obtain⟨c1,c2⟩:=Ej h3 (by split<;>omega);refine⟨⟨⟨a1,by omega⟩,⟨b1,by omega⟩,?_,⟨c1,by omega⟩⟩,a2,b2,c2⟩;split at h4
 (·exact jS h4);exact ya (Nat.le_of_eq (mN h4)) ag
theorem uM {s:bY} (h:cN s=true):Lit s:=by
 have hm:1048576≤maxLen:=ag;have R:=dm h;have hl:=R.len;(have hi:(bZ s).length=(uses s).length:=by simp only[bZ,uses,ei,eE,List.length_append,List.length_map];omega);have hu:(uses s).length=s.imports.length+s.inputs.length+s.b9.length+s.stores.length+(s.tables.length+s.funcs.length+s.cells.length):=(by simp only[uses,ei,eE,List.length_append,List.length_map]);have hT:∀ t∈s.tables,t.rows.length≤100∧Ms t.unit:=fun t ht=>by
  have:=(R.tables t ht).2;unfold fG at this;simp only[Bool.and_eq_true,decide_eq_true_eq]at this;exact⟨this.1.2,ya (iA this.1.1.1) ag⟩
 have hF:∀ f∈s.funcs,f.params.length≤6∧(∀ q∈f.params,GK q)∧GJ f.body∧cU f.body≤1000000:=fun f hf=>by
  have:=(R.funcs f hf).2;unfold jU at this;simp only[Bool.and_eq_true,decide_eq_true_eq]at this;refine⟨this.2.1.2,fun q hq=>?_,LM this.2.2⟩;have hq:=List.all_eq_true.1 this.1 q hq;unfold kX at hq;rw[Bool.and_eq_true]at hq;exact⟨jS hq.1,ya (iA hq.2) ag⟩
 have hC:∀ c∈s.cells,Ms c.unit∧GJ c.iY∧cU c.iY≤1000000:=fun c hc=>by
  have:=(R.cells c hc).2;unfold jE at this;rw[Bool.and_eq_true]at this;exact⟨ya (iA this.1) ag,LM this.2⟩
 have hR:∀ r∈s.bX,r.steps.length≤100∧∀ y∈r.steps,yD y∧y.inp.length≤100∧y.o.length≤100∧y.cells.length≤100:=fun r hr=>by
  have:=(R.bX r hr).2;unfold dW at this;simp only[Bool.and_eq_true,decide_eq_true_eq]at this;exact⟨this.1,fun y hy=>OS (List.all_eq_true.1 this.2 y hy)⟩
 refine⟨⟨jS R.name,fun x hx=>?_,fun x hx=>?_,fun x hx=>⟨jS (R.tables x hx).1,(hT x hx).2,by have:=(hT x hx).1;omega⟩,fun x hx=>⟨jS (R.funcs x hx).1,by have:=(hF x hx).1;omega,(hF x hx).2.1,(hF x hx).2.2.1⟩,
  fun x hx=>⟨jS (R.cells x hx).1,(hC x hx).1,(hC x hx).2.1⟩,fun x hx=>⟨jS (R.b9 x hx).1,BR (R.b9 x hx).2⟩,fun x hx=>⟨jS (R.stores x hx).1,BR (R.stores x hx).2⟩,
  fun x hx=>⟨jS (R.bX x hx).1,by have:=(hR x hx).1;omega,fun y hy=>((hR x hx).2 y hy).1⟩,by omega⟩,by omega,by omega,by omega,by omega,by omega,by omega,
  fun t ht=>by have:=(hT t ht).1;omega,fun r hr=>⟨by have:=(hR r hr).1;omega,fun y hy=>by have:=((hR r hr).2 y hy).2;omega⟩,fun f hf=>⟨(hF f hf).2.2.2,by have:=(hF f hf).1;omega⟩,fun c hc=>(hC c hc).2.2⟩
 (·have h2:=(R.imports x hx).2;refine⟨jS (R.imports x hx).1,BR h2,?_⟩;rw[Bool.and_eq_true]at h2;unfold fD at h2;simp only[Bool.and_eq_true]at h2;exact jS h2.2.2);have h2:=(R.inputs x hx).2;refine⟨jS (R.inputs x hx).1,BR h2,?_⟩;rw[Bool.and_eq_true]at h2;have h3:=h2.2;unfold iQ at h3;rw[Bool.or_eq_true]at h3;rcases h3 with h3|h3
 (·exact ya (Nat.le_of_eq (mN h3)) ag);exact jS h3
theorem LN:Lit gH:=by
 (have h0:Ms (bs []):=by show 0≤maxLen;decide);refine⟨⟨h0,fun x hx=>aac,fun x hx=>aac,fun x hx=>aac,fun x hx=>aac,fun x hx=>aac,fun x hx=>aac,fun x hx=>aac,fun x hx=>aac,?_⟩,?_,?_,Nat.zero_le _,Nat.zero_le _,Nat.zero_le _,Nat.zero_le _,fun x hx=>aac,fun x hx=>aac,fun x hx=>aac,fun x hx=>aac⟩
 (·show 0≤1000000000000;decide)
 (·show 0≤10000000;decide);show 0≤1000000000;decide
theorem Ek (a b:bY):Lit (eM a b).2:=by
 by_cases h:(eM a b).1=0
 (·exact uM (BQ (x:=(eM a b).2) (Prod.ext h rfl)).2.2.2.2);have:(eM a b).2=gH:=by
  unfold eM at h ⊢;split
  (·rfl);next q=>
  rw[if_neg q]at h;dsimp only at h ⊢;split
  (·rfl);next q2=>
  rw[if_neg q2]at h;split
  (·(next q3=>rw[if_pos q3]at h;exact absurd rfl h));rfl
 rw[this];exact LN
theorem nP (a:bY) (p:ByteArray):Lit (dG a p).2:=by
 by_cases h:(dG a p).1=0
 (·exact uM (Iy (x:=(dG a p).2) (Prod.ext h rfl)));have:(dG a p).2=gH:=by
  unfold dG at h ⊢;split
  (·rfl);next q=>
  rw[if_neg q]at h;split
  (·rfl);(next q2=>rw[if_neg q2]at h;exact absurd rfl h)
 rw[this];exact LN
end
end Go.Proofs.YtkfofnjfihfgkaaGreatDoor
