/- Parts of the proof, packed (BigW to Frac5); each theorem bears its own conditions. -/
import Derived.WalkSpells
import Derived.Deep.RegionHeld3
import Derived.IntWalk
import Derived.Deep.LoopGhost
import Derived.Deep.DeepCutAuto
import Derived.Test.YtfppbjfnllhgcaaGreatPp02
set_option linter.unusedVariables false
set_option linter.unusedSimpArgs false
set_option maxRecDepth 100000
set_option maxHeartbeats 8000000
open Go.Proofs.Tryz
open Go.Lib renaming hid → aa
open Nat renaming le_refl→aaB,lt_of_lt_of_le→aaD,le_trans→aaC,zero_le→aaG,add_mul→aaA,mul_le_mul_right→aaF
open Go.World renaming size_alloc→aaI
open List renaming length_append→aao,getD_eq_getElem?_getD→aam,take_of_length_le→aax,length_map→aap,eq_nil_of_length_eq_zero→aaj,drop_eq_getElem_cons→aah,replicate→aaw
open Go.RowKit.Below renaming refl→aaf
theorem bL {p:Prop} (h:p:=by simp[Value.ownBlock]):p:=h
theorem aj {p:Prop} (h:p:=by simp<;>omega):p:=h
theorem aD {p:Prop} (h:p:=by simp[World.setCell];omega):p:=h
namespace Go.Proofs.YtfppbjfnllhgcaaGreat
section
open Go Go.RowKit Bg
theorem drop_zero {l:List Nat} {n:Nat} (h:∀ d∈l.drop n,d=0) (hn:0<n) (hl:n≤l.length) (h0:l.getD (n - 1) 0=0):∀ d∈l.drop (n - 1),d=0:=by
 intro d hd;rw[aah af]at hd;rcases List.mem_cons.1 hd with e|hd
 (·rw[kN af]at h0;omega);rw[show n - 1+1=n by omega]at hd;exact h d hd
theorem qw (xs:List Nat) (A:Option Addr) (c:Nat) (w:World) (hd:gI xs) (ha:ji w A (xs.map nv)) (hc:xs.length≤c) (hm:xs.length≤1000000):Calls prog 282 #[bW A xs c] w fun e w'=>e= .returned (bW A (gJ (val xs)).length c)∧w=w':=by
 go_enter func282,ntmps282;go_wp2;go_loop [3] (fun t=>∃ n:Nat,n≤xs.length∧t=bU (n:Int)∧Hid (∀ d∈xs.drop n,d=0)) (fun t=>(intOf t).toNat);(case atStart=>exact⟨xs.length,aaB _,rfl,by intro d hd;simp at hd⟩);obtain⟨n,hn,rfl,HZ⟩:=hrel;by_cases h0:n=0
 (·subst h0;have HR:=aa (NH hd hn HZ.o (fun h=>absurd h af));go_wp2;go_ret;exact⟨EA (by rw[← HR.o];simp),rfl⟩);obtain⟨b,off,d,rfl,hlt,hcell,Vy,HD⟩:=ha.dg hd (k:=n - 1) af;have hi:((n:Int) - 1).toNat=n - 1:=af;cases hz:((d:Int)==0)with
 |true=>
  have HR:Hid (∀ d∈xs.drop (n - 1),d=0):=by
   refine drop_zero HZ.o af hn ?_;have:=HD.o;simp at hz;omega
  go_wp2;go_round;exact⟨n - 1,by omega,by go_num,HR⟩;simp[intOf];omega
 |false=>
  (have hz':d≠0:=fun e=>by subst e;simp at hz);have HR:=aa (NH hd hn HZ.o (fun h=>by rw[HD.o];exact hz'));clear hz';go_wp2;go_ret;exact⟨EA (by rw[← HR.o,List.length_take];omega),rfl⟩
attribute [local go_sem] Iq
theorem wB:(Tryz.prog.info? 3).map (fun i=>(i.zero,i.size,i.bytes))=some (some (bU 0),1,8):=by kernel_rfl
def Cp (a b:List Nat) (B:Nat) (w wr:World) (i:Nat):Prop:=
 ∃ out:List Nat,out.length=a.length+b.length∧gI out∧cN wr B 3 (out.map nv)∧val out=val (a.take i)*val b∧Below B w wr
def I5 (a b:List Nat) (B:Nat) (w wr:World) (i k c:Nat):Prop:=
 ∃ out:List Nat,out.length=a.length+b.length∧gI out∧cN wr B 3 (out.map nv)∧val out+c*1048576 ^ (i+k)=val (a.take i)*val b+a.getD i 0*(1048576 ^ i*val (b.take k))∧Below B w wr
theorem I5.step {a b:List Nat} {B:Nat} {w wr:World} {i k c d y o:Nat} {out:List Nat} (hda:gI a) (hdb:gI b) (hi:i<a.length) (hk:k<b.length) (hc:c<1048576) (h1:out.length=a.length+b.length) (h2:gI out) (h3:cN wr B 3 (out.map nv)) (h4:val out+c*1048576 ^ (i+k)=val (a.take i)*val b+a.getD i 0*(1048576 ^ i*val (b.take k))) (h5:Below B w wr) (hd:a.getD i 0=d) (hy:b.getD k 0=y) (ho:out.getD (i+k) 0=o) (n:Nat) (hn:n=o+d*y+c):n / 1048576<1048576∧I5 a b B w (wr.setCell (bY B (i+k)) (bU ((n % 1048576:Nat):Int))) i (k+1) (n / 1048576):=by
 subst hd hy ho;have hx:=hda.get i;have hyy:=hdb.get k;have hoo:=h2.get (i+k);have hm:=O3 _ _ _ _ hoo hx hyy hc;rw[← hn]at hm;refine⟨hm.2,out.set (i+k) (n % 1048576),by simpa using h1,h2.eB _ af,h3.VZ _ _,?_,h5.setCell aac _⟩;have:=O2 out (i+k) (a.getD i 0) (b.getD k 0) c n _ af h4 hn;rw[RG b _ i k hk];rw[← Nat.add_assoc i k 1];omega
theorem Cp.step {a b:List Nat} {B:Nat} {w wr:World} {i c o:Nat} {out:List Nat} (hda:gI a) (hdb:gI b) (hi:i<a.length) (h1:out.length=a.length+b.length) (h2:gI out) (h3:cN wr B 3 (out.map nv)) (h4:val out+c*1048576 ^ (i+b.length)=val (a.take i)*val b+a.getD i 0*(1048576 ^ i*val (b.take b.length))) (h5:Below B w wr) (ho:out.getD (i+b.length) 0=o):o+c<1048576∧Cp a b B w (wr.setCell (bY B (i+b.length)) (bU ((o+c:Nat):Int))) (i+1):=by
 subst ho;rw[aax aac, ← RF a b i hi]at h4;have hb:=O4 (i:=i+1) hda hdb hi;rw[show i+1+b.length=i+b.length+1 by omega]at hb;have:=VX out (i+b.length) c _ af h4 hb;exact⟨this.1,out.set _ _,by simpa using h1,h2.eB _ this.1,h3.VZ _ _,this.2,h5.setCell aac _⟩
theorem Ge (a b:List Nat) (A A':Option Addr) (c c':Nat) (w:World) (hda:gI a) (hdb:gI b) (ha:ji w A (a.map nv)) (hb:ji w A' (b.map nv)) (hl:a.length+b.length≤1000000):Calls prog 312 #[bW A a c,bW A' b c'] w fun e w'=>∃ cc,e= .returned (bW (bY w 0) (gJ (val a*val b)).length cc)∧(gJ (val a*val b)).length≤cc∧cc≤1000000∧r9 w' w cc (val a*val b)∧Below w w w':=by
 have hmk:∀ W:World,(Instr.makeSlice 38 (bU ((a.length:Int)+(b.length:Int))) (bU ((a.length:Int)+(b.length:Int)))).run prog W= .ok (bW (bY W 0) (a.length+b.length) (a.length+b.length)) (W.alloc (.cells ((aaw (a.length+b.length) (bU 0)).toArray) 3)):=fun W=>by
  have:=run_make_row' (P:=prog) 38 3 (bU 0) 8 underlying38 wB rfl .i64 .i64 (a.length+b.length) af af W;rw[tN,Int.natCast_add]at this;exact this
 go_enter func312,ntmps312;go_wp2;go_loopw [20] (fun t wr=>∃ i:Nat,i≤a.length∧t=bU (i:Int)∧Cp a b w w wr i) (fun t _=>a.length - (intOf t).toNat);(case atStart=>refine⟨0,aaG _,rfl,aaw (a.length+b.length) 0,by simp,gI.zeros _,?_,by simp[xS,val],cS _⟩;have:=heap_alloc_new w (.cells ((aaw (a.length+b.length) (bU 0)).toArray) 3);unfold cN;rw[List.map_replicate];exact this);obtain⟨i,hi,rfl,HM⟩:=hrel;by_cases hlt:i<a.length
 ·have HM0:I5 a b w w wr i 0 0:=by
   obtain⟨out,h1,h2,h3,h4,h5⟩:=HM;exact⟨out,h1,h2,h3,by simp[val,h4],h5⟩
  (have fO:Below w w wr:=by obtain⟨out,h1,h2,h3,h4,h5⟩:=HM;exact h5);obtain⟨b1,off1,d,rfl,Co,hcell1,Vy,HD⟩:=(ha.bZ fO).dg hda hlt;clear HM;obtain⟨wo,rfl⟩:∃ wo:World,wo=wr:=⟨_,rfl⟩;go_wp2;go_loopw [8,27] (fun t u wq=>∃ k c:Nat,k≤b.length∧c<1048576∧t=bU (c:Int)∧u=bU (k:Int)∧I5 a b w w wq i k c) (fun _ u _=>b.length - (intOf u).toNat);(case atStart=>exact⟨0,0,aaG _,by omega,rfl,rfl,HM0⟩);obtain⟨k,cc,hk,hcc,rfl,rfl,HM⟩:=hrel;clear HM0 hmk;by_cases hkt:k<b.length
  ·obtain⟨out,h1,h2,h3,h4,h5⟩:=HM;obtain⟨b2,off2,y,rfl,hlt2,LR,Yh,HY⟩:=(hb.bZ h5).dg hdb hkt;have hik:i+k<out.length:=af;have hik2:i+k<a.length+b.length:=af;obtain⟨o,Sj,Sk,HO⟩:=h3.dg h2 hik;have hfz:=h3.frozen (i+k);have hp1:(d:Int)*(y:Int)≤1099509530625:=by
    have:d*y≤1048575*1048575:=Nat.mul_le_mul af af;have e:(d:Int)*(y:Int)=((d*y:Nat):Int):=ai;omega
   have Lc:0≤(d:Int)*(y:Int):=Int.mul_nonneg af af;have H4:=aa h4;have H1:=aa h1;clear h4 h1;go_wp2;go_roundw;have hs:=I5.step hda hdb hlt hkt hcc H1.o h2 h3 H4.o h5 HD.o HY.o HO.o (o+d*y+cc) rfl;exact⟨k+1,(o+d*y+cc) / 1048576,by omega,hs.1,by rw[vdiv],by go_num,by rw[vmod];exact hs.2⟩;simp[intOf];omega
  (obtain rfl:k=b.length:=by omega);obtain⟨out,h1,h2,h3,h4,h5⟩:=HM;have hik:i+b.length<out.length:=af;have hik2:i+b.length<a.length+b.length:=af;obtain⟨o,Sj,Sk,HO⟩:=h3.dg h2 hik;have hfz:=h3.frozen (i+b.length);have hsum:o+cc<1048576∧Cp a b w w (wr.setCell (bY w (i+b.length)) (bU ((o+cc:Nat):Int))) (i+1):=Cp.step hda hdb hlt h1 h2 h3 h4 h5 HO.o;have sD:=hsum.1;have HS:=aa hsum.2;clear h1 h4 hsum;go_wp2;go_roundw;exact⟨i+1,by omega,by go_num,by rw[← Int.natCast_add];exact HS.o⟩;simp[intOf];omega
 (obtain rfl:i=a.length:=by omega);obtain⟨out,h1,h2,h3,h4,h5⟩:=HM;rw[aax aac]at h4;have H4:=aa h4;have h1':out.length=a.length+b.length:=h1;have H1:=aa h1;clear h4 h1;have ht:=qw out (bY w 0) (a.length+b.length) wr h2 h3.arr af af;rw[h1',H4.o]at ht;have HT:=aa ht;clear ht h1';go_wp2_with (go_at_call 282;refine HT.o.mono ?_;rintro e w' ⟨rfl,rfl⟩);go_ret;have hle:=tM h2;rw[H4.o,H1.o]at hle;refine⟨a.length+b.length,rfl,hle,hl,?_,h5⟩;have:=r9.of h2 h3;rw[H1.o,H4.o]at this;exact this
def Bp (a:List Nat) (d B:Nat) (w wr:World) (i r:Nat):Prop:=
 ∃ out:List Nat,out.length=a.length∧gI out∧cN wr B 3 (out.map nv)∧val (out.drop i)*d+r=val (a.drop i)∧Below B w wr
theorem Bp.step {a out:List Nat} {d B:Nat} {w wr:World} {i r x:Nat} (hda:gI a) (hd:d<1048577) (hi:i<a.length) (hr:r<d) (h1:out.length=a.length) (h2:gI out) (h3:cN wr B 3 (out.map nv)) (h4:val (out.drop (i+1))*d+r=val (a.drop (i+1))) (h5:Below B w wr) (hx:a.getD i 0=x):(r*1048576+x) / d<1048576∧Bp a d B w (wr.setCell (bY B i) (bU (((r*1048576+x) / d:Nat):Int))) i ((r*1048576+x) % d):=by
 subst hx;have hs:=Ik r d (a.getD i 0) hr hd (hda.get i);exact⟨hs.1,out.set i _,by simpa using h1,h2.eB _ hs.1,h3.VZ _ _,Lm a out i d r hi h1 hr h4,h5.setCell aac _⟩
theorem EL (a:List Nat) (d:Nat) (A:Option Addr) (c:Nat) (w:World) (hda:gI a) (Zq:0<d) (hd:d<1048577) (ha:ji w A (a.map nv)) (hl:a.length≤1000000):Calls prog 319 #[bW A a c,bU (d:Int)] w fun e w'=>∃ cc,e= .returned (.tuple #[bW (bY w 0) (gJ (val a / d)).length cc,bU ((val a % d:Nat):Int)])∧(gJ (val a / d)).length≤cc∧cc≤1000000∧r9 w' w cc (val a / d)∧Below w w w':=by
 have hmk:∀ W:World,(Instr.makeSlice 38 (bU ((a.length:Int))) (bU (a.length:Int))).run prog W= .ok (bW (bY W 0) a a) (W.alloc (.cells ((aaw a.length (bU 0)).toArray) 3)):=fun W=>by
  have:=run_make_row' (P:=prog) 38 3 (bU 0) 8 underlying38 wB rfl .i64 .i64 a.length af af W;rw[tN]at this;exact this
 go_enter func319,ntmps319;go_wp2;go_loopw [7,8] (fun t u wr=>∃ k r:Nat,k≤a.length∧r<d∧t=bU (r:Int)∧u=bU ((k:Int) - 1)∧Bp a d w w wr k r) (fun _ u _=>(intOf u+1).toNat);(case atStart=>refine⟨a.length,0,aaB _,Zq,rfl,rfl,aaw a.length 0,by simp,gI.zeros _,?_,by simp[val],cS _⟩;have:=heap_alloc_new w (.cells ((aaw a.length (bU 0)).toArray) 3);unfold cN;rw[List.map_replicate];exact this);obtain⟨k,r,hk,hr,rfl,rfl,out,h1,h2,h3,h4,h5⟩:=hrel;clear hmk;by_cases h0:k=0
 (·subst h0;have ht:=qw out (bY w 0) a.length wr h2 h3.arr af af;simp only[List.drop_zero]at h4;have he:=Ey (val a) (val out) d r hr h4;rw[h1,he.1]at ht;have HT:=aa ht;have HE:=aa he;have H1:=aa h1;clear ht he h4 h1;have hneg:decide ((0:Int)≤((0:Nat):Int) - 1)=false:=ak;go_wp2_with (go_at_call 282;refine HT.o.mono ?_;rintro e w' ⟨rfl,rfl⟩);go_ret2;have hle:=tM h2;rw[HE.o.1,H1.o]at hle;refine⟨a.length,V0 rfl (int_eq (by rw[← HE.o.2])),hle,hl,?_,h5⟩;have:=r9.of h2 h3;rw[H1.o,HE.o.1]at this;exact this);obtain⟨i,rfl⟩:∃ i,k=i+1:=⟨k - 1,by omega⟩;obtain⟨b1,off1,x,rfl,Co,hcell1,hxl,HX⟩:=(ha.bZ h5).dg hda (k:=i) af;have hik:i<out.length:=af;obtain⟨o,Sj,Sk,HO⟩:=h3.dg h2 hik;have hfz:=h3.frozen i;have HS:=aa (Bp.step hda hd af hr h1 h2 h3 h4 h5 HX.o);have Vz:=Ir r x af hxl;have H1:=aa h1;have H4:=aa h4;clear h1 h4;go_wp2;go_roundw;exact⟨i,(r*1048576+x) % d,by omega,Nat.mod_lt _ Zq,by rw[smod],rfl,by rw[sdiv];exact HS.o.2⟩;simp[intOf]
attribute [local go_sem] Iq
def Sm (pre post:List Value) (u v:List Nat) (gs g:Nat) (w wr:World) (i b:Nat):Prop:=
 ∃ u1:List Nat,u1.length=u.length∧gI u1∧Lu wr g pre u1 post∧val u1+gs*val (v.take i)=val u+b*1048576 ^ i∧w.grownBy wr (some g)
def Sn (pre post:List Value) (u1 v:List Nat) (g:Nat) (w wr:World) (i c:Nat):Prop:=
 ∃ u2:List Nat,u2.length=u1.length∧gI u2∧Lu wr g pre u2 post∧val u2+c*1048576 ^ i=val u1+val (v.take i)∧w.grownBy wr (some g)
theorem Sm.step {pre post:List Value} {u v u1:List Nat} {gs g:Nat} {w wr:World} {i b x y:Nat} (hv:gI v) (hg:gs<1048576) (hi:i<u.length) (hb:b<1048576) (h1:u1.length=u.length) (h2:gI u1) (h3:Lu wr g pre u1 post) (h4:val u1+gs*val (v.take i)=val u+b*1048576 ^ i) (h5:w.grownBy wr (some g)) (hx:u1.getD i 0=x) (hy:v.getD i 0=y) (n:Int) (hn:n=(x:Int) - b - (gs:Int)*(y:Int)):∃ b':Nat,b'<1048576∧-(n / 1048576)=(b':Int)∧Sm pre post u v gs g w (wr.setCell (bY g (pre.length+i)) (bU (n % 1048576))) (i+1) b':=by
 subst hx hy;have Yh:=hv.get i;have hs:=Il u1 i gs (v.getD i 0) b _ af h2 hb hg Yh _ h4 n (by rw[hn];simp);obtain⟨p1,p2,p3,p4,p5⟩:=hs;refine⟨(-(n / 1048576)).toNat,p3,by omega,u1.set i (n % 1048576).toNat,by simpa using h1,h2.eB _ p4,?_,?_,fJ h5 _ _⟩
 (·have:=h3.eB (i:=i) af (n % 1048576).toNat;rw[show(((n % 1048576).toNat:Nat):Int)=n % 1048576 by omega]at this;exact this);rw[← p5];congr 1;rcases Nat.lt_or_ge i v.length with hlt|hge
 (·rw[eV v i hlt,Nat.mul_add]);rw[aax (show v.length≤i+1 by omega),aax hge];simp[hge]
theorem Sn.step {pre post:List Value} {u1 v u2:List Nat} {g:Nat} {w wr:World} {i c x y:Nat} (hv:gI v) (hi:i<u1.length) (hc:c≤1) (h1:u2.length=u1.length) (h2:gI u2) (h3:Lu wr g pre u2 post) (h4:val u2+c*1048576 ^ i=val u1+val (v.take i)) (h5:w.grownBy wr (some g)) (hx:u2.getD i 0=x) (hy:v.getD i 0=y) (n:Nat) (hn:n=c+x+y):n / 1048576≤1∧Sn pre post u1 v g w (wr.setCell (bY g (pre.length+i)) (bU ((n % 1048576:Nat):Int))) (i+1) (n / 1048576):=by
 subst hx hy;have hs:=Lp u2 i (v.getD i 0) c _ af h2 hc (hv.get i) h4 n hn;refine⟨hs.1,u2.set i (n % 1048576),by simpa using h1,h2.eB _ af,h3.eB af _,?_,fJ h5 _ _⟩;rw[hs.2,Nat.add_assoc];congr 1;rcases Nat.lt_or_ge i v.length with hlt|hge
 (·rw[eV v i hlt]);rw[aax (show v.length≤i+1 by omega),aax hge];simp[hge]
def uS (pre post:List Value) (u v:List Nat) (gs g:Nat) (w:World) (e:Ending) (w':World):Prop:=
 ∃ u':List Nat,u'.length=u.length∧gI u'∧val u'=val u - (if gs*val v≤val u then gs else gs - 1)*val v∧e= .returned (bU (((if gs*val v≤val u then gs else gs - 1):Nat):Int))∧Lu w' g pre u' post∧w.grownBy w' (some g)
theorem LU (pre post:List Value) (u v:List Nat) (gs g cap:Nat) (A:Option Addr) (c:Nat) (w:World) (hu:gI u) (hv:gI v) (hvu:v.length≤u.length) (hl:u.length≤1000000) (hg:gs<1048576) (hw:Lu w g pre u post) (ha:ji w A (v.map nv)) (hne:∀ b o,A=bY b o→b≠g) (hq:gs=0∨(gs - 1)*val v≤val u):Calls prog 320 #[bW (bY g pre.length) u cap,bW A v c,bU (gs:Int)] w (uS pre post u v gs g w):=by
 go_enter func320,ntmps320;go_wp2;go_loopw [7,14] (fun t s wr=>∃ i b:Nat,i≤u.length∧b<1048576∧t=bU (b:Int)∧s=bU (i:Int)∧Sm pre post u v gs g w wr i b) (fun _ s _=>u.length - (intOf s).toNat);(case atStart=>exact⟨0,0,aaG _,by omega,rfl,rfl,u,rfl,hu,hw,by simp[val],World.grownBy.refl _ _⟩);obtain⟨i,b,hi,hb,rfl,rfl,u1,h1,h2,h3,h4,h5⟩:=hrel;by_cases hlt:i<u.length
 ·obtain⟨x,hcell,hxl,HX⟩:=h3.dg h2 (i:=i) af;have hfz:=h3.frozen (pre.length+i);by_cases hiv:i<v.length
  ·obtain⟨b2,off2,y,rfl,hlt2,LR,Yh,HY⟩:=(ha.grown h5 (fun b o e h=>hne b o e (by injection h))).dg hv hiv;have HS:=aa (fun n hn=>Sm.step hv hg hlt hb h1 h2 h3 h4 h5 HX.o HY.o n hn);have hp1:(gs:Int)*(y:Int)≤1099509530625:=by
    have:gs*y≤1048575*1048575:=Nat.mul_le_mul af af;have e:(gs:Int)*(y:Int)=((gs*y:Nat):Int):=ai;omega
   have Lc:0≤(gs:Int)*(y:Int):=Int.mul_nonneg af af;clear h1 h4;go_wp2;go_roundw;obtain⟨b',hb',e1,hS⟩:=HS.o _ rfl;exact⟨i+1,b',by omega,hb',by rw[e1],by go_num,hS⟩;simp[intOf];omega
  (have hy:v.getD i 0=0:=by rw[aam,List.getElem?_eq_none af];rfl);have HS:=aa (fun n hn=>Sm.step hv hg hlt hb h1 h2 h3 h4 h5 HX.o hy n hn);clear h1 h4 hy;go_wp2;go_roundw;obtain⟨b',hb',e1,hS⟩:=HS.o ((x:Int) - b) ai;exact⟨i+1,b',by omega,hb',by rw[e1],by go_num,hS⟩;simp[intOf];omega
 (obtain rfl:i=u.length:=by omega);rw[aax hvu]at h4;cases hb0:((b:Int)==0)with
 |true=>
  have e0:b=0:=(by simpa using hb0);have HL:=aa (Lr (v:=v) (g:=gs) (U:=val u) (b:=b) h2 (by rw[h1];exact h4) e0);have H1:=aa h1;clear h4 h1 e0;go_wp2;go_ret;exact⟨u1,H1.o,h2,by rw[if_pos HL.o.1];exact HL.o.2,by rw[if_pos HL.o.1];rfl,h3,h5⟩
 |false=>
  (have hbn:b≠0:=fun e=>by subst e;simp at hb0);have hgs:0<gs:=by
   rcases Nat.eq_zero_or_pos gs with e|e
   (·subst e;exfalso;have hq2:=j5 h2;rw[h1]at hq2;have:=aaF (1048576 ^ u.length) (show 1≤b by omega);omega);exact e
  have HN:=aa hbn;have H4:=aa h4;have H1:=aa h1;clear h4 h1 hbn;obtain⟨wo,rfl⟩:∃ wo:World,wo=wr:=⟨_,rfl⟩;go_wp2;go_loopw [10,49] (fun t s wr=>∃ i c:Nat,i≤u.length∧c≤1∧t=bU (c:Int)∧s=bU (i:Int)∧Sn pre post u1 v g w wr i c) (fun _ s _=>u.length - (intOf s).toNat);(case atStart=>exact⟨0,0,aaG _,by omega,rfl,rfl,u1,rfl,h2,h3,by simp[val],h5⟩);obtain⟨i,c1,hi,hc1,rfl,rfl,u2,k1,k2,k3,k4,k5⟩:=hrel;have Pq:u2.length=u.length:=k1.trans H1.o;by_cases hlt:i<u.length
  ·obtain⟨x,hcell,hxl,HX⟩:=k3.dg k2 (i:=i) af;have hfz:=k3.frozen (pre.length+i);by_cases hiv:i<v.length
   ·obtain⟨b2,off2,y,rfl,hlt2,LR,Yh,HY⟩:=(ha.grown k5 (fun b o e h=>hne b o e (by injection h))).dg hv hiv;have HS:=aa (fun n hn=>Sn.step hv af hc1 k1 k2 k3 k4 k5 HX.o HY.o n hn);clear k1 k4 Pq;go_wp2;go_roundw;case rel=>
     have hS:=HS.o (c1+x+y) rfl;exact⟨i+1,(c1+x+y) / 1048576,by omega,hS.1,int_eq af,by go_num,by
      have:=hS.2;rw[show(((c1+x+y) % 1048576:Nat):Int)=((c1:Int)+x+y) % 1048576 by omega]at this;exact this⟩
    (case measure=>simp[intOf];omega)
   (have hy:v.getD i 0=0:=by rw[aam,List.getElem?_eq_none af];rfl);have HS:=aa (fun n hn=>Sn.step hv af hc1 k1 k2 k3 k4 k5 HX.o hy n hn);clear k1 k4 Pq hy;go_wp2;go_roundw;case rel=>
    have hS:=HS.o (c1+x) rfl;exact⟨i+1,(c1+x) / 1048576,by omega,hS.1,int_eq af,by go_num,by
     have:=hS.2;rw[show(((c1+x) % 1048576:Nat):Int)=((c1:Int)+x) % 1048576 by omega]at this;exact this⟩
   (case measure=>simp[intOf];omega)
  (obtain rfl:i=u.length:=by omega);rw[aax hvu]at k4;have HH:=aa (Im (u:=u1) (u2:=u2) (g:=gs) (U:=val u) (V:=val v) (b:=b) (c:=c1) h2 k2 k1 (by rw[H1.o];exact H4.o) HN.o (by rw[H1.o];exact k4) (by rw[H1.o];exact j5 hu) hq);have HL:=aa Pq;clear k1 k4 Pq;go_wp2;go_ret;(have hn:¬gs*val v≤val u:=by have:=HH.o.1;omega);exact⟨u2,HL.o,k2,by rw[if_neg hn];exact HH.o.2.2,by rw[if_neg hn];exact Bn af,k3,k5⟩
theorem N1 (x y:Int) (w:World):Calls prog 62 #[bU x,bU y] w fun e w'=>e= .returned (bU (Y3 x y))∧w=w':=by
 unfold Y3;rcases Int.lt_trichotomy x y with h|h|h
 (·have h2:¬y<x:=af;rw[if_pos h];go_enter func62,ntmps62;go_wp2;go_ret;exact⟨rfl,rfl⟩)
 (·subst h;rw[if_neg af,if_pos rfl];have h2:¬x<x:=af;go_enter func62,ntmps62;go_wp2;go_ret;exact⟨rfl,rfl⟩);have h2:¬x<y:=af;rw[if_neg h2,if_neg af];go_enter func62,ntmps62;go_wp2;go_ret;exact⟨rfl,rfl⟩
theorem sL (a b:List Nat) (A A':Option Addr) (c c':Nat) (w:World) (hca:Canon a) (hcb:Canon b) (ha:ji w A (a.map nv)) (hb:ji w A' (b.map nv)) (hl:a.length≤1000000) (hl':b.length≤1000000):Calls prog 318 #[bW A a c,bW A' b c'] w fun e w'=>e= .returned (bU (vO (val a) (val b)))∧∃ n,w'=w.drewN n:=by
 by_cases hlen:a.length=b.length
 ·have hbn:((a.length:Int) != (b.length:Int))=false:=au;have HL:=aa hlen;have hle:a.length≤b.length:=af;have hge:b.length≤a.length:=af;clear hlen;go_enter func318,ntmps318;go_wp2;go_loopw [5] (fun u wr=>∃ k n:Nat,k≤a.length∧u=bU ((k:Int) - 1)∧wr=w.drewN n∧Hid (a.drop k=b.drop k)) (fun u _=>(intOf u+1).toNat);(case atStart=>exact⟨a.length,0,aaB _,rfl,rfl,by show a.drop a.length=b.drop a.length;rw[List.drop_of_length_le aac,List.drop_of_length_le af]⟩);obtain⟨k,n,hk,rfl,rfl,HD⟩:=hrel;by_cases h0:k=0
  (·subst h0;have HE:=aa (show vO (val a) (val b)=0 from FU (by have:=HD.o;simp at this;rw[this]));have hneg:decide ((0:Int)≤((0:Nat):Int) - 1)=false:=ak;go_wp2;go_ret;exact⟨Bn HE.o.symm,n,rfl⟩);obtain⟨i,rfl⟩:∃ i,k=i+1:=⟨k - 1,by omega⟩;obtain⟨b1,off1,x,rfl,Co,hcell1,hxl,HX⟩:=ha.dg hca.1 (k:=i) af;obtain⟨b2,off2,y,rfl,hlt2,LR,Yh,HY⟩:=hb.dg hcb.1 (k:=i) af;have e5:(((i+1:Nat):Int) - 1)=(i:Int):=af;rw[e5];clear e5;have hi1:(i:Int)<(a.length:Int):=af;have hi2:(i:Int)<(b.length:Int):=af;have Bo:0≤(i:Int):=af;by_cases hxy:x=y
  ·subst hxy;have HN:=aa (show a.drop i=b.drop i by
    have e1:=HX.o;have e2:=HY.o;have e3:=HD.o;have e4:=HL.o;rw[aah (show i<a.length by omega),aah (show i<b.length by omega),e3, ← kN (l:=a) af, ← kN (l:=b) af,e1,e2])
   have hne:((x:Int) != (x:Int))=false:=ai;go_wp2;go_quiet (fail);go_wp2;go_roundw;exact⟨i,n+nq,by omega,rfl,rfl,HN⟩;simp[intOf]
  have hne:((x:Int) != (y:Int))=true:=au;have hcmp:=fun w=>N1 (x:Int) (y:Int) w;have HE:=aa (show Y3 (x:Int) (y:Int)=vO (val a) (val b) by
   have e1:=HX.o;have e2:=HY.o;have e3:=HD.o;have e4:=HL.o;unfold Y3;rcases Nat.lt_or_ge x y with h|h
   (·rw[if_pos af,FT (RD hca.1 e4 i af e3 af)]);rw[if_neg af,if_neg af,Bl (RD hcb.1 e4.symm i af e3.symm af)])
  have HC:=aa hcmp;clear hcmp;go_wp2;go_quiet (fail);go_wp2;go_quiet ((go_at_call 62;exact BM (HC.o _)));go_wp2;go_ret;exact⟨Bn HE.o,_,by rw[World.drewN_drewN,World.drewN_drewN]⟩
 have hbn:((a.length:Int) != (b.length:Int))=true:=au;have HE:=aa (show Y3 (a.length:Int) (b.length:Int)=vO (val a) (val b) by
  unfold Y3;rcases Nat.lt_or_ge a.length b.length with h|h
  (·rw[if_pos af,FT (RB hca.1 hcb h)]);rw[if_neg af,if_neg af,Bl (RB hcb.1 hca af)])
 clear hlen;have HC:=aa (fun w=>N1 (a.length:Int) (b.length:Int) w);go_enter func318,ntmps318;go_wp2_with (go_at_call 62;refine(HC.o _).mono ?_;rintro e w' ⟨rfl,rfl⟩);go_ret;exact⟨Bn HE.o,0,rfl⟩
end
open Go Go.RowKit Bg Go.Proofs
theorem N2:(Tryz.prog.info? 3).map (fun i=>(i.zero,i.size,i.bytes))=some (some (bU 0),1,8):=by kernel_rfl
theorem Pr {w:World} {A:Option Addr} {xs:List Value} (h:ji w A xs):Reads w w 1 A xs.length xs:=by
 refine⟨by simp,fun hn=>?_⟩;obtain⟨b,off,e,hlt,hc⟩:=h (fun e=>by subst e;simp at hn);refine⟨_,e,hlt,fun j u hu=>?_⟩;have:=hc j u hu;unfold Addr.add;split
 (·(next h0=>subst h0;exact this));exact this
theorem N3 {w:World} {base:Nat} {A:Option Addr} {e:TypeId} {n c:Nat} {xs:List Value} (h:w.ownsRow base e 1 (bW A n c) n xs):ji w A xs∧n≤c∧∀ b o,A=bY b o→base≤b:=by
 obtain⟨h0,h1⟩:=h;rcases h1 with⟨h1,h2⟩|⟨g,cap,cur,h1,h2,h3,h4,h5,h6,h7⟩
 (·injection h1 with e1 e2 e3;subst e1 e2 e3;have:xs=[]:=aaj af;subst this;exact⟨ji.nil,aaB _,fun b o h=>by cases h⟩);injection h1 with e1 e2 e3;subst e1 e3;refine⟨fun _=>⟨g,0,rfl,(Array.getElem?_eq_some_iff.1 h3).1,fun j v hv=>?_⟩,h4,fun b o h=>by injection h with h;injection h with h;omega⟩;rw[Nat.zero_add,cell_of_row w g j cur e (0,0) h3];rw[← h7,List.getElem?_take]at hv;split at hv
 (·simpa using hv);cases hv
def EN (xs:List Value) (w:World) (e:Ending) (w':World):Prop:=
 ∃ A' c',e= .returned (bW A' xs c')∧ji w' A' xs∧xs.length≤c'∧(∀ b o,A'=bY b o→w.heap.size≤b)∧Below w w w'
theorem EO (xs:List Value) (A:Option Addr) (c:Nat) (w:World) (h1:∀ u∈xs,u.oneCell'=true) (ha:ji w A xs) (hl:xs.length≤1000000):Calls prog 306 #[bW A xs c] w (EN xs w):=by
 have q:∀ (w:World) (a:Option Addr) (n c n' c':Nat),(binOp .eql 38 (bW a n c) (bW none n' c')).run prog w= .ok (.bool a.isNone) w:=fun w a n c n' c'=>Lib.run_eql_slice_nil w _ _ a n c n' c' underlying38;rcases A with _|ad
 ·have hx:xs=[]:=by
   rcases xs with _|⟨x,r⟩
   (·rfl);obtain⟨b,off,e,_⟩:=ha ai;cases e
  subst hx;simp only[List.length_nil];go_enter func306,ntmps306;go_wp2;go_ret;exact⟨none,0,rfl,ji.nil,aaG _,fun b o h=>(by cases h),aaf _ _⟩
 obtain⟨i0,Bo,hz0,hz1,hz2⟩:=info_parts N2;have H1:=aa h1;clear h1;go_enter func306,ntmps306;go_wp2_with (at_builtin;refine f_ _ rfl (.tmp 5) (.tmp 6) _ rfl w 3 i0 _ 1 8 underlying38 Bo hz0 hz1 hz2 rfl af _ 0 [] rfl ?c1 (w+1) (some ad) xs.length c xs rfl ?c2 H1.o ?c3 ?c4 ?c5 ?_);(case c1=>exact⟨by simp,.inr ⟨w.heap.size,0,#[],rfl,aaB _,heap_alloc_new w _,aaB _,by unfold maxLen;omega,by simp,by simp⟩⟩);(case c2=>exact((Pr ha).alloc aac _).more af);(case c3=>unfold maxLen;omega);(case c4=>omega);(case c5=>simp);intro v1 w1 hown hg _;have hb:Below w w w1:=(cS _).grown hg ai bL;clear q;go_wp2;go_ret;obtain⟨A',c',rfl⟩:∃ A' c',v1=bW A' xs c':=by
  rcases hown.2 with⟨h,hn⟩|⟨g,cap,cur,h,_⟩
  (·exact⟨none,0,by rw[h,hn]⟩);exact⟨_,_,h⟩
 have:=N3 hown;exact⟨A',c',rfl,this.1,this.2.1,this.2.2,hb⟩
def uT (B:Nat) (w:World) (v:Value) (n:Nat):Prop:=∃ A c,v=bW A (gJ n).length c∧(gJ n).length≤c∧ji w A ((gJ n).map nv)∧∀ b o,A=bY b o→B≤b
theorem uT.bZ {B:Nat} {w w':World} {v:Value} {n:Nat} (h:uT B w v n) (hb:Below w w w'):uT B w' v n:=by
 obtain⟨A,c,h1,h2,h3,h4⟩:=h;exact⟨A,c,h1,h2,h3.bZ hb,h4⟩
def tT (a b:Nat) (w:World) (e:Ending) (w':World):Prop:=
 ∃ q r,e= .returned (.tuple #[q,r])∧uT w w' q (a / b)∧uT w w' r (a % b)∧Below w w w'
theorem Sp (l:List Nat):∀ u∈l.map nv,u.oneCell'=true:=by
 intro u hu;obtain⟨d,_,rfl⟩:=List.mem_map.1 hu;rfl
theorem Gf (a b:List Nat) (A A':Option Addr) (c c':Nat) (w:World) (hca:Canon a) (hcb:Canon b) (ha:ji w A (a.map nv)) (hb:ji w A' (b.map nv)) (hl:a.length≤1000000) (hl':b.length≤1000000) (hlt:val a<val b):Calls prog 308 #[bW A a c,bW A' b c'] w (tT (val a) (val b) w):=by
 have hcmp:=sL a b A A' c c' w hca hcb ha hb hl hl';rw[FT hlt]at hcmp;have HC:=aa hcmp;have HQ:=aa (show val a / val b=0 from Nat.div_eq_of_lt hlt);have HR:=aa (show val a % val b=val a from Nat.mod_eq_of_lt hlt);clear hcmp;go_enter func308,ntmps308;go_wp2_with fail;refine HC.o.mono ?_;rintro e w' ⟨rfl,n,rfl⟩;go_wp2_with fail;have HK:=aa (EO (a.map nv) A c (w.drewN n) (Sp a) (ha.drewN n) (by simpa using hl));have wC:Hid (Calls prog 306 #[bW A a c] (w.drewN n) (EN (a.map nv) (w.drewN n))):=by
  have:=HK.o;rw[aap]at this;exact this
 clear HK;refine wC.o.mono ?_;rintro e w1 ⟨A1,c1,rfl,hA1,hl1,jw,hb1⟩;go_wp2;go_ret2;have e1:gJ (val a)=a:=(kJ hca).symm;refine⟨_,_,rfl,?_,?_,mC hb1⟩
 (·rw[HQ.o];exact⟨none,0,by rw[gM];rfl,by rw[gM];simp,by rw[gM];exact ji.nil,fun b o h=>by cases h⟩);rw[HR.o];exact⟨A1,c1,by rw[e1];simp,by rw[e1];simpa using hl1,by rw[e1];exact hA1,jw⟩
theorem I6 (a:List Nat) (d:Nat) (A A':Option Addr) (c c':Nat) (w:World) (hca:Canon a) (Zq:0<d) (hd:d<1048576) (ha:ji w A (a.map nv)) (hb:ji w A' ([d].map nv)) (hl:a.length≤1000000) (hle:d≤val a):Calls prog 308 #[bW A a c,bW A' 1 c'] w (tT (val a) d w):=by
 have hv:val [d]=d:=(by simp[val]);have hcb:Canon [d]:=⟨gI.cons hd gI.nil,fun _=>by simp;omega⟩;have hcmp:=sL a [d] A A' c c' w hca hcb ha hb hl ai;rw[hv]at hcmp;obtain⟨b1,off1,y,rfl,Co,hcell1,Yh,HY⟩:=hb.dg hcb.1 (k:=0) ai;(obtain rfl:d=y:=by simpa using HY.o);simp only[Nat.add_zero]at hcell1;have hge:¬vO (val a) d<0:=by
  rcases Nat.lt_or_ge d (val a)with h|h
  (·rw[Bl h];omega);rw[FU af];omega
 have HC:=aa hcmp;have HG:=aa hge;clear hcmp hge hv HY;go_enter func308,ntmps308;go_wp2_with fail;refine HC.o.mono ?_;rintro e w' ⟨rfl,n,rfl⟩;have hge:=HG.o;generalize vO (val a) d=z at hge;clear HC HG;have hge2:decide (z<0)=false:=(by simpa using hge);go_wp2_with fail;have HS:=aa (EL a d A c (w.drewN n) hca.1 Zq af (ha.drewN n) hl);refine HS.o.mono ?_;rintro e w1 ⟨cc,rfl,hcc,hcm,hown,hb1⟩;clear HS;have Zr:=mC hb1;go_wp2_with fail;have HT:=aa (qw [val a % d] (bY w1 0) 1 (w1.alloc (.cells #[bU ((val a % d:Nat):Int)] 3)) (gI.cons (by have:=Nat.mod_lt (val a) Zq;omega) gI.nil) (cN.arr (t:=3) (heap_alloc_new w1 _)) aac ai);refine HT.o.mono ?_;rintro e w2 ⟨rfl,rfl⟩;go_wp2;go_ret2;have hval:val [val a % d]=val a % d:=(by simp[val]);refine⟨_,_,rfl,?_,?_,Zr.alloc Zr.size _⟩
 (·exact⟨_,cc,rfl,hcc,hown.arr.alloc _,fun b o h=>by injection h with h;injection h with h;subst h;exact aaB _⟩);refine⟨_,1,by rw[hval];rfl,?_,?_,fun b o h=>by injection h with h;injection h with h;subst h;exact Zr.size⟩
 (·have:=tM (l:=[val a % d]) (gI.cons (by have:=Nat.mod_lt (val a) Zq;omega) gI.nil);rw[hval]at this;exact this);have h2:=(cN.arr (t:=3) (heap_alloc_new w1 (.cells #[bU ((val a % d:Nat):Int)] 3)):ji _ _ ([val a % d].map nv)).oy (gJ (val [val a % d])).length;rw[← List.map_take, ← vN (gI.cons (by have:=Nat.mod_lt (val a) Zq;omega) gI.nil),hval]at h2;exact h2
end Go.Proofs.YtfppbjfnllhgcaaGreat
namespace Bg
structure Pack (X V top t0 v1 v0:Nat):Prop where
 start:X / V≤top / v1
 more:∀ g rs,g*v1+rs=top→rs*1048576+t0<g*v0→X / V<g
 stop:∀ g rs,g*v1+rs=top→g<1048576→(1048576≤rs∨g*v0≤rs*1048576+t0)→(g - 1)*V≤X
 small:X / V<1048576
 pos:0<V
theorem AW.pack {u v:List Nat} {j n t2 t1 t0 v1 v0 top:Nat} (h:AW u v j n) (h2:u.getD (j+v.length) 0=t2) (h1:u.getD (j+v.length - 1) 0=t1) (h0:u.getD (j+v.length - 2) 0=t0) (g1:v.getD (v.length - 1) 0=v1) (g0:v.getD (v.length - 2) 0=v0) (ht:top=t2*1048576+t1):Pack (val (u.drop j)) (val v) top t0 v1 v0:=by
 have hn:=h.hn;subst h2 h1 h0 g1 g0 ht;have e2:j+v.length=j+n+2:=af;have e1:j+v.length - 1=j+n+1:=af;have e0:j+v.length - 2=j+n:=af;have k1:v.length - 1=n+1:=af;have k0:v.length - 2=n:=af;rw[e2,k1,k0,show j+n+2 - 1=j+n+1 by omega,show j+n+2 - 2=j+n by omega];exact⟨h.start,fun g rs a b=>h.more a b,fun g rs a b c=>h.stop a b c,h.quot,h.pos⟩
theorem Pack.dec {X V top t0 v1 v0 g rs:Nat} (h:Pack X V top t0 v1 v0) (hg:g*v1+rs=top) (hq:X / V≤g) (hx:1048576≤g∨rs*1048576+t0<g*v0):0<g∧(g - 1)*v1+(rs+v1)=top∧X / V≤g - 1∧rs+v1≤top:=by
 have hsm:=h.small;have hmo:=h.more g rs hg;clear h;generalize X / V=q at*;have hlt:q<g:=by
  rcases hx with h1|h1
  (·omega);exact hmo h1
 have hpos:0<g:=af;have e:g*v1=(g - 1)*v1+v1:=by
  (conv=>lhs;rw[show g=(g - 1)+1 by omega,aaA,Nat.one_mul])
 refine⟨hpos,by omega,by omega,by omega⟩
theorem Pack.first {X V top t0 v1 v0:Nat} (h:Pack X V top t0 v1 v0) (hv:0<v1):top / v1*v1+top % v1=top∧X / V≤top / v1∧top / v1≤top∧top % v1≤top:=by
 refine⟨?_,h.start,Nat.div_le_self _ _,Nat.mod_le _ _⟩;have:=Nat.div_add_mod top v1;rw[Nat.mul_comm]at this;exact this
end Bg
namespace Go.Proofs.YtfppbjfnllhgcaaGreat
section
open Go Go.RowKit Bg Go.Proofs
theorem r9.row {w:World} {g cc n base:Nat} (h:r9 w g cc n) (hc:cc≤maxLen) (hb:base≤g):w.ownsRow base 3 1 (bW (bY g 0) (gJ n).length cc) (gJ n).length ((gJ n).map nv):=by
 obtain⟨k,hk,hB⟩:=h;refine⟨by simp,.inr ⟨g,cc,_,rfl,hb,hB,by omega,hc,by simp;omega,?_⟩⟩;simp
theorem Wm {w:World} {base n:Nat} {v:Value} {xs:List Value} (h:w.ownsRow base 3 1 v n xs) (hn:0<n):∃ g cap rest,v=bW (bY g 0) n cap∧base≤g∧n≤cap∧cN w g 3 (xs++rest):=by
 obtain⟨h0,h1⟩:=h;rcases h1 with⟨h1,h2⟩|⟨g,cap,cur,h1,h2,h3,h4,h5,h6,h7⟩
 (·omega);refine⟨g,cap,cur.toList.drop (n*1),h1,h2,h4,?_⟩;rw[← h7,List.take_append_drop];unfold cN;rw[h3]
theorem cN.udg {w:World} {g:Nat} {u:List Nat} {rest:List Value} (h:cN w g 3 (u.map nv++rest)) (hd:gI u) {i:Nat} (hi:i<u.length):∃ d:Nat,b_ w g i (bU (d:Int))∧d<1048576∧Hid (u.getD i 0=d):=by
 refine⟨u.getD i 0,?_,hd.get i,rfl⟩;rw[h.cell,List.getElem?_append_left aX];simp[nv,hi]
def Sr (v:List Nat) (T m gu gv gq:Nat) (rest:List Value) (w wr:World) (k:Nat):Prop:=
 ∃ u q:List Nat,u.length=m+v.length∧q.length=m∧gI u∧gI q∧cN wr gu 3 (u.map nv++rest)∧cN wr gq 3 (q.map nv)∧ji wr (bY gv 0) (v.map nv)∧
  val u+val v*(1048576 ^ k*val (q.drop k))=T∧val (u.drop k)<val v∧Below w w wr
theorem Cq {v u:List Nat} {gu gv cu cv j n' g N:Nat} {rest:List Value} {wo:World} (sM:AW u v j n') (Re:cN wo gu 3 (u.map nv++rest)) (VB:ji wo (bY gv 0) (v.map nv)) (hne:gu<gv) (hl:u.length≤400002) (zK:g<1048576) (hx:(g - 1)*val v≤val (u.drop j)):Calls prog 320 #[bW (bY gu j) (v.length+1) (cu - j),bW (bY gv 0) v cv,bU (g:Int)] (wo.drewN N) (uS ((u.take j).map nv) ((u.drop (j+(n'+3))).map nv++rest) ((u.drop j).take (n'+3)) v g gu (wo.drewN N)):=by
 have hn:=sM.hn;have hj:=sM.hj;have hlw:((u.drop j).take (n'+3)).length=v.length+1:=au;have hlp:((u.take j).map nv).length=j:=au;have nj:=LU ((u.take j).map nv) ((u.drop (j+(n'+3))).map nv++rest) ((u.drop j).take (n'+3)) v g gu (cu - j) (bY gv 0) cv (wo.drewN N)
  ((sM.hu.NG j).oy _) sM.hv af af zK (by
   show cN (wo.drewN N) gu 3 _;have e:(u.take j).map nv++(((u.drop j).take (n'+3)).map nv++((u.drop (j+(n'+3))).map nv++rest))=u.map nv++rest:=by
    rw[← List.append_assoc, ← List.append_assoc, ← List.map_append, ← List.map_append];congr 2;rw[List.append_assoc];(conv=>rhs;rw[← List.take_append_drop j u]);congr 1;rw[← List.drop_drop];exact List.take_append_drop _ _
   rw[e];exact Re) (VB.drewN N) (fun b o e h=>by injection e with e;injection e with e;omega) (.inr (by rw[sM.Y2];exact hx))
 rw[hlp,hlw]at nj;exact nj
theorem EP {v u q:List Nat} {T m gu gv gq j n' g N:Nat} {rest:List Value} {w wo w1:World} {e:Ending} (sM:AW u v j n') (Pq:u.length=m+v.length) (VC:q.length=m) (hjm:j<m) (Zs:gI q) (Zt:cN wo gq 3 (q.map nv)) (VB:ji wo (bY gv 0) (v.map nv)) (hval:val u+val v*(1048576 ^ (j+1)*val (q.drop (j+1)))=T) (fO:Below w w wo) (h1:w.heap.size≤gu) (h2:gu<gv) (h3:gv<gq) (hq:val (u.drop j) / val v≤g) (hx:(g - 1)*val v≤val (u.drop j)) (hs:uS ((u.take j).map nv) ((u.drop (j+(n'+3))).map nv++rest) ((u.drop j).take (n'+3)) v g gu (wo.drewN N) e w1):∃ d:Nat,e= .returned (bU (d:Int))∧cN w1 gq 3 (q.map nv)∧Sr v T m gu gv gq rest w (w1.setCell (bY gq j) (bU (d:Int))) j:=by
 obtain⟨u',k1,k2,k3,k4,k5,k6⟩:=hs;have hn:=sM.hn;have hj:=sM.hj;rw[sM.Y2,O6 g _ _ sM.pos hq (.inr hx)]at k3 k4;have hlw:((u.drop j).take (n'+3)).length=n'+3:=au;rw[hlw]at k1;have hB1:cN w1 gq 3 (q.map nv):=(k6.block gq (by have:=Zt.lt;simpa using this) (fun h=>by injection h with h;omega)).trans Zt;(have VD:=sM.next (q:=q) k1 k3 af);have hgr:(wo.drewN N).grownBy w1 (some gu):=k6;refine⟨_,k4,hB1,swap u j (n'+3) u',q.set j (val (u.drop j) / val v),?_,by simpa using VC,RI sM.hu k2,Zs.eB _ sM.quot,?_,hB1.VZ _ _,?_,?_,VD.1,?_⟩
 (·rw[RH k1 af];exact Pq)
 ·have hw':cN w1 gu 3 ((swap u j (n'+3) u').map nv++rest):=by
   have:cN w1 gu 3 _:=k5;unfold swap;simpa using this
  exact(Below.heap_setCell w1 (bY gq j) _ gu (fun e=>by simp at e;omega)).trans hw'
 (·have a1:=(VB.drewN N).grown hgr (fun b o e h=>by injection e with e;injection e with e;injection h with h;omega);exact a1.grown (fJ (World.grownBy.refl w1 (some gq)) j _) (fun b o e h=>by injection e with e;injection e with e;injection h with h;omega))
 (·rw[VD.2];exact hval);have b1:Below w w (wo.drewN N):=below_drewN fO N;have b2:=b1.grown hgr (by have:=fO.size;simpa using this) (fun k hk=>by injection hk with hk;omega);exact b2.setCell (p:=bY gq j) (show w.heap.size≤gq by omega) _
theorem Gg (a b:List Nat) (A A':Option Addr) (c c':Nat) (w:World) (hca:Canon a) (hcb:Canon b) (ha:ji w A (a.map nv)) (hb:ji w A' (b.map nv)) (hl:a.length≤400000) (hl':b.length≤400000) (h2:2≤b.length) (hle:val b≤val a):Calls prog 308 #[.slice A a.length c,.slice A' b.length c'] w (tT (val a) (val b) w):=by
 have hcmp:=sL a b A A' c c' w hca hcb ha hb af af;have hge:¬vO (val a) (val b)<0:=by
  rcases Nat.lt_or_ge (val b) (val a)with h|h
  (·rw[Bl h];omega);rw[FU af];omega
 have HC:=aa hcmp;have HG:=aa hge;clear hcmp hge;obtain⟨b1,off1,y,rfl,Co,hcell1,Yh,HY⟩:=hb.dg hcb.1 (k:=b.length - 1) af;have hy0:0<y:=by
  have:=hcb.2 (fun e=>by subst e;simp at h2);rw[List.getLast_eq_getElem, ← kN,HY.o]at this;omega
 have hb1n:((b.length:Int)==1)=false:=au;go_enter func308,ntmps308;go_wp2_with fail;refine HC.o.mono ?_;rintro e w' ⟨rfl,n,rfl⟩;have hge:=HG.o;generalize vO (val a) (val b)=z at hge;clear HC HG;have hge2:decide (z<0)=false:=(by simpa using hge);go_wp2;go_loop [8] (fun t=>∃ s:Nat,0<s∧s<1048576∧t=bU (s:Int)) (fun t=>1048576 - (intOf t).toNat);(case atStart=>exact⟨1,by omega,by omega,rfl⟩);obtain⟨s,hs0,hs,rfl⟩:=hrel;have hp1:(y:Int)*(s:Int)≤1099509530625:=by
  have:y*s≤1048575*1048575:=Nat.mul_le_mul af af;have e:(y:Int)*(s:Int)=((y*s:Nat):Int):=ai;omega
 have Lc:0≤(y:Int)*(s:Int):=Int.mul_nonneg af af;cases hq:decide ((y:Int)*(s:Int)<524288)with
 |true=>
  have hs2:s<524288:=by
   have h1:(y:Int)*(s:Int)<524288:=(by simpa using hq);have h3:1*s≤y*s:=aaF s hy0;have e:(y:Int)*(s:Int)=((y*s:Nat):Int):=ai;omega
  go_wp2;go_round;exact⟨s*2,by omega,by omega,int_eq af⟩;simp[intOf];omega
 |false=>
  have Y1:val [s]=s:=(by simp[val]);have hds:gI [s]:=gI.cons hs gI.nil;have Cr:=Ge a [s] A (some ⟨w,0,none⟩) c 1 ((w.drewN n).alloc (.cells #[bU (s:Int)] 3)) hca.1 hds ((ha.drewN n).alloc _) (cN.arr (t:=3) (heap_alloc_new (w.drewN n) _)) au;rw[Y1]at Cr;have HM:=aa Cr;clear Cr;go_wp2_with fail;refine HM.o.mono ?_;have e0:((w.drewN n).alloc (.cells #[bU (s:Int)] 3)).heap.size=w.heap.size+1:=ai;rw[e0];clear e0;rintro e w1 ⟨cc,rfl,hcc,hcm,hown,hb1⟩;clear HM;have fO:Below w w w1:=(mC ((aaf w (w.drewN n)).alloc aac _)).trans (hb1.mono ai);have hg1:w.heap.size+1<w1.heap.size:=hown.lt;have hrow:=hown.row (base:=w) aH af;have hlen1:(gJ (val a*s)).length≤a.length+1:=pT (by
   rw[Nat.pow_succ];exact Nat.mul_lt_mul'' (j5 hca.1) hs)
  obtain⟨i0,Bo,hz0,hz1,hz2⟩:=info_parts N2;clear hown;go_wp2_with (at_builtin;refine f_ _ rfl (.tmp 54) (.tmp 55) _ rfl w 3 i0 _ 1 8 underlying38 Bo hz0 hz1 hz2 rfl af _ (gJ (val a*s)).length ((gJ (val a*s)).map nv) rfl ?c1 (w1.heap.size+1) (some ⟨w1,0,none⟩) 1 1 [nv 0] rfl ?c2 ?c3 ?c4 ?c5 ?c6 ?_);(case c1=>exact hrow.alloc _);case c2=>exact⟨rfl,fun _=>⟨_,rfl,by simp,fun j u hu=>by
   rcases j with _|j
   (·(obtain rfl:u=nv 0:=by simpa using hu.symm);exact(cN.cell (t:=3) (cs:=[nv 0]) (heap_alloc_new w1 _) 0));simp at hu⟩⟩
  (case c3=>exact fun u hu=>by(obtain rfl:u=nv 0:=by simpa using hu);rfl);(case c4=>unfold maxLen;omega);(case c5=>omega);(case c6=>simp;omega);intro vu w2 hown2 hg2 hat2;have LV:Below w w w2:=(fO.alloc af _).grown hg2 au bL;obtain⟨gu,cu,rest,rfl,hgub,hlcu,Re⟩:=Wm hown2 af;have Wn:=Re.lt;clear hrow hown2 hg2 hat2 Bo hz0 hz1 hz2;have hm2:=Ge b [s] (some ⟨b1,off1,none⟩) (some ⟨w2,0,none⟩) c' 1 (w2.alloc (.cells #[bU (s:Int)] 3)) hcb.1 hds ((hb.bZ LV).alloc _) (cN.arr (t:=3) (heap_alloc_new w2 _)) au;rw[Y1]at hm2;have HM:=aa hm2;clear hm2;go_wp2_with fail;refine HM.o.mono ?_;have e0:(w2.alloc (.cells #[bU (s:Int)] 3)).heap.size=w2.heap.size+1:=ai;rw[e0];clear e0;rintro e w3 ⟨cv,rfl,hcv,hcvm,Ss,hb3⟩;clear HM;have hBu3:=(Re.alloc (.cells #[bU (s:Int)] 3)).bZ hb3 af;have Zu:Below w w w3:=(LV.alloc af _).trans (hb3.mono af);have hlb:a.length≤(gJ (val a*s)).length:=by
   have:=kq (m:=val a) (n:=val a*s) (Nat.le_mul_of_pos_right _ hs0)
   rwa [← kJ hca]at this
  have Wp:b.length≤(gJ (val b*s)).length:=by
   have:=kq (m:=val b) (n:=val b*s) (Nat.le_mul_of_pos_right _ hs0)
   rwa [← kJ hcb]at this
  have hlb3:(gJ (val b*s)).length≤(gJ (val a*s)).length:=kq (aaF s hle);have hT:0<val b*s:=Nat.mul_pos (by
   have:=mX hcb (fun e=>by subst e;simp at h2);have:=VW (b.length - 1);omega) hs0
  obtain⟨v,hv⟩:∃ v,v=gJ (val b*s):=⟨_,rfl⟩;have hcan:Canon v:=(by rw[hv];exact qg _);have hvv:val v=val b*s:=(by rw[hv,jY]);rw[← hv]at Wp hlb3 hcv;obtain⟨m,hm⟩:∃ m,(gJ (val a*s)).length+1=m+v.length:=⟨(gJ (val a*s)).length+1 - v.length,by omega⟩;have hst:Sr v (val a*s) m gu (w2.heap.size+1) w3 rest w (w3.alloc (.cells ((aaw m (bU 0)).toArray) 3)) m:=by
   have Wq:gI (gJ (val a*s)++[0]):=(mR _).app (gI.cons af gI.nil);have Pq:(gJ (val a*s)++[0]).length=m+v.length:=au;refine⟨gJ (val a*s)++[0],aaw m 0,Pq,by simp,Wq,gI.zeros _,?_,?_,?_,?_,?_,Zu.alloc Zu.size _⟩
   (·have:=hBu3.alloc (.cells ((aaw m (bU 0)).toArray) 3);simpa using this)
   (·have:=heap_alloc_new w3 (.cells ((aaw m (bU 0)).toArray) 3);unfold cN;rw[List.map_replicate];exact this)
   (·rw[hv];exact Ss.arr.alloc _)
   (·rw[List.drop_of_length_le ai];simp[val,mQ,jY]);have mH:=mX hcan (fun e=>by rw[e]at Wp;simp only[List.length_nil]at Wp;omega);have hd:(gJ (val a*s)++[0]).drop m=((gJ (val a*s)).drop m)++[0]:=(by rw[List.drop_append_of_le_length af]);rw[hd,mQ];have:=j5 ((mR (val a*s)).NG m);rw[List.length_drop,show(gJ (val a*s)).length - m=v.length - 1 by omega]at this;simp[val];omega
  have HST:=aa hst;have HVV:=aa hvv;have hne1:(((m:Int)+(v.length:Int))==(a.length:Int))=false:=au;have hmk:∀ W:World,(Instr.makeSlice 38 (bU (m:Int)) (bU (m:Int))).run prog W= .ok (.slice (some ⟨W,0,none⟩) m m) (W.alloc (.cells ((aaw m (bU 0)).toArray) 3)):=fun W=>by
   have:=run_make_row' (P:=prog) 38 3 (bU 0) 8 underlying38 N2 rfl .i64 .i64 m af af W;rw[tN]at this;exact this
  have hml:m+v.length≤400002:=af;have hcu:m+v.length≤cu:=af;have hv2:2≤v.length:=af;have Cr:1≤m:=af;have D8:gu<w2.heap.size+1:=af;have hgv:w2.heap.size+1<w3.heap.size:=Ss.lt;rw[← hv,hm];clear hst hvv hBu3 Re hlcu Ss hb3 LV fO hb1 hg1 hlen1 hlb Wp hlb3 hm hv hT hcv;go_wp2_with fail;clear hmk;generalize hgqd:w3.heap.size=gq at*;clear ha hb Co hcell1 Yh HY hy0 hb1n hge hge2 hq hp1 Lc hca hcb h2 hle hds Y1 hl hl' hcm hcvm hcc Zu Wn hne1;generalize (w2.heap.size+1)=gv at*;go_loopw [13] (fun t wr=>∃ k:Nat,k≤m∧t=bU ((k:Int) - 1)∧Sr v (val a*s) m gu gv gq rest w wr k) (fun t _=>(intOf t+1).toNat);(case atStart=>exact⟨m,aaB _,rfl,HST.o⟩);clear hgqd HST;obtain⟨k,hk,rfl,u,q,Pq,VC,Wq,Zs,Re,Zt,VB,hval,mH,fO⟩:=hrel;by_cases h0:k=0
  ·subst h0;have Yi:val u+val b*s*val q=val a*s:=by
    rw[← hval,HVV.o];simp
   rw[List.drop_zero,HVV.o]at mH;have HE:=aa (VY (val a) (val b) s (val u) (val q) hs0 Yi mH);have hAu:ji wr (some ⟨gu,0,none⟩) (u.map nv):=by
    have:=Re.arr.oy (u.map nv).length
    rwa [List.take_left' rfl]at this
   have ht1:=qw u (some ⟨gu,0,none⟩) cu wr Wq hAu af af;rw[Pq]at ht1;have hAd:ji wr (some ⟨gu,0,none⟩) ((gJ (val u)).map nv):=by
    have:=hAu.oy (gJ (val u)).length
    rwa [← List.map_take, ← vN Wq]at this
   have hsh:=EL (gJ (val u)) s (some ⟨gu,0,none⟩) cu wr (mR _) hs0 af hAd (by have:=tM Wq;omega);rw[jY]at hsh;have EI:=aa ht1;have Ib:=aa hsh;have VE:=aa VC;clear ht1 hsh hval Yi Pq VC;go_wp2_with fail;refine EI.o.mono ?_;rintro e w1 ⟨rfl,rfl⟩;go_wp2_with fail;refine Ib.o.mono ?_;rintro e w1 ⟨cc,rfl,hcc,hcm,hown,hb1⟩;clear Ib EI;have I7:=Zt.bZ hb1 Zt.lt;have ht2:=qw q (some ⟨gq,0,none⟩) m w1 Zs I7.arr (by have:=VE.o;omega) (by have:=VE.o;omega);rw[VE.o]at ht2;have Zv:=aa ht2;clear ht2;go_wp2_with fail;refine Zv.o.mono ?_;rintro e w2 ⟨rfl,rfl⟩;go_wp2;go_ret2;refine⟨_,_,rfl,?_,?_,fO.trans (hb1.mono fO.size)⟩
   ·rw[← HE.o.1];refine⟨_,m,rfl,?_,?_,fun b o h=>by injection h with h;injection h with h;omega⟩
    (·have:=tM Zs;have:=VE.o;omega)
    ·have:=I7.arr.oy (gJ (val q)).length
     rwa [← List.map_take, ← vN Zs]at this
   rw[← HE.o.2];exact⟨_,cc,rfl,hcc,hown.arr,fun b o h=>by injection h with h;injection h with h;subst h;exact fO.size⟩
  obtain⟨j,rfl⟩:∃ j,k=j+1:=⟨k - 1,by omega⟩;have e5:(((j+1:Nat):Int) - 1)=(j:Int):=af;rw[e5];clear e5;obtain⟨n',hn'⟩:∃ n',v.length=n'+2:=⟨v.length - 2,by omega⟩;obtain⟨t2,hc2,ht2,Zv⟩:=Re.udg Wq (i:=j+v.length) af;obtain⟨t1,hc1,ht1,EI⟩:=Re.udg Wq (i:=j+v.length - 1) af;obtain⟨t0,hc0,ht0,VF⟩:=Re.udg Wq (i:=j+v.length - 2) af;obtain⟨_,_,v1,e1,_,hcv1,hv1l,HV1⟩:=VB.dg hcan.1 (k:=v.length - 1) af;injection e1 with e1;injection e1 with e1 e2;subst e1 e2;obtain⟨_,_,v0,e1,_,hcv0,hv0l,HV0⟩:=VB.dg hcan.1 (k:=v.length - 2) af;injection e1 with e1;injection e1 with e1 e2;subst e1 e2;simp only[Nat.zero_add]at hcv1 hcv0;have hv10:0<v1:=by
   have:=hcan.2 (fun e=>by rw[e]at hv2;simp at hv2);rw[List.getLast_eq_getElem, ← kN,HV1.o]at this;omega
  obtain⟨top,Zw⟩:∃ top:Nat,top=t2*1048576+t1:=⟨_,rfl⟩;have sM:AW u v j n':=⟨Wq,hcan.1,hn',by omega,by rw[show n'+1=v.length - 1 by omega,HV1.o];exact hv10,mH⟩;have HW:=aa sM;have HPK:=aa (sM.pack Zv.o EI.o VF.o HV1.o HV0.o Zw);have htl:(top:Int)<1099511627776:=af;have HTOP:=aa Zw;clear Zw;have Yj:=aa Pq;have VE:=aa VC;have HVAL:=aa hval;have HNN:=aa hn';clear Pq VC hval hn' sM;have Zc:j+v.length<m+v.length:=af;have f1:((j:Int)+(v.length:Int)).toNat=j+v.length:=af;have f2:((j:Int)+(v.length:Int) - 1).toNat=j+v.length - 1:=af;have f3:((v.length:Int) - 1).toNat=v.length - 1:=af;have Vz:=Lv t2 t1 top HTOP.o ht2 ht1;clear Zc mH;go_wp2_with fail;go_quiet (fail);generalize (t2:Int)*1048576=x89;clear Vz;go_wp2_with fail;go_quiet (fail);obtain⟨wo,rfl⟩:∃ wo:World,wo=wr:=⟨_,rfl⟩;have hgd:(top:Int) / (v1:Int)=((top / v1:Nat):Int):=(by rw[Int.natCast_ediv]);have I8:(top:Int) % (v1:Int)=((top % v1:Nat):Int):=(by rw[Int.natCast_emod]);have hwr:wrap64 ((top / v1:Nat):Int)=((top / v1:Nat):Int):=by
   have:=Nat.div_le_self top v1;generalize top / v1=g0 at*;exact IntWalk.wrap64_in _ ⟨by omega,by omega⟩
  rw[hgd,I8,hwr];clear hgd I8 hwr;go_wp2;go_loopw [15,16] (fun t r wq=>∃ g rs nd:Nat,t=bU (g:Int)∧r=bU (rs:Int)∧g≤1099511627776∧rs≤1099511627776∧wq=wo.drewN nd∧Hid (g*v1+rs=top∧val (u.drop j) / val v≤g)) (fun t _ _=>(intOf t).toNat);(case atStart=>(have h1:=HPK.o.first hv10);have h2:=h1.2.2;generalize top / v1=g0 at*;generalize top % v1=r0 at*;exact⟨g0,r0,_,rfl,rfl,by omega,by omega,by rw[World.drewN_drewN],h1.1,h1.2.1⟩);obtain⟨g,rs,nd,rfl,rfl,hgb,hrb,rfl,HG⟩:=hrel;have f4:((v.length:Int) - 2).toNat=v.length - 2:=af;have f5:((j:Int)+(v.length:Int) - 2).toNat=j+v.length - 2:=af;by_cases hga:1048576≤g
  (·have hA:decide ((1048576:Int)≤(g:Int))=true:=au;have HD:=aa (HPK.o.dec HG.o.1 HG.o.2 (.inl hga));have hrs2:rs+v1≤top:=HD.o.2.2.2;have hg0:0<g:=af;go_wp2_with fail;go_quiet (fail);go_wp2;go_roundw;exact⟨g - 1,rs+v1,nd+nq,int_eq af,int_eq af,by omega,by omega,rfl,HD.o.2.1,HD.o.2.2.1⟩;simp[intOf];omega);have hA:decide ((1048576:Int)≤(g:Int))=false:=au;have zK:g<1048576:=af;by_cases hrb2:1048576≤rs
  (·have hB:decide ((rs:Int)<1048576)=false:=au;have HX:=aa (HPK.o.stop g rs HG.o.1 zK (.inl hrb2));go_wp2_with fail;go_quiet (fail);go_wp2_with fail;rw[show j+v.length+1 - j=v.length+1 by omega];refine(Cq (cu:=cu) (cv:=cv) HW.o Re VB D8 (by have:=Yj.o;omega) zK HX.o).mono ?_;intro e w1 hpost;obtain⟨d,rfl,I7,hAt⟩:=EP HW.o Yj.o VE.o af Zs Zt VB HVAL.o fO hgub D8 hgv HG.o.2 HX.o hpost;clear hpost;have hcq:b_ w1 gq j (bU ((q.getD j 0:Nat):Int)):=I7.nat (by have:=VE.o;omega);generalize q.getD j 0=qj at hcq;have hfq:=I7.frozen j;have Vw:=aa hAt;clear hAt;go_wp2;go_roundw;exact⟨j,by omega,rfl,Vw.o⟩;simp[intOf]);have hB:decide ((rs:Int)<1048576)=true:=au;have hrl:rs<1048576:=af;obtain⟨x,hx⟩:∃ x:Nat,x=rs*1048576+t0:=⟨_,rfl⟩;have hxl:x<1099511627776:=af;have hp1:(g:Int)*(v0:Int)≤1099509530625:=by
   have:g*v0≤1048575*1048575:=Nat.mul_le_mul af af;have e:(g:Int)*(v0:Int)=((g*v0:Nat):Int):=ai;omega
  have Lc:0≤(g:Int)*(v0:Int):=Int.mul_nonneg af af;by_cases hgt:x<g*v0
  ·have hC:decide ((x:Int)<(g:Int)*(v0:Int))=true:=by
    have e:(g:Int)*(v0:Int)=((g*v0:Nat):Int):=ai;rw[e];simp;omega
   have HD:=aa (HPK.o.dec HG.o.1 HG.o.2 (.inr (by rw[← hx];exact hgt)));have hrs2:rs+v1≤top:=HD.o.2.2.2;have hg0:0<g:=HD.o.1;have HX2:=aa hx;clear hx;have Vz:=Lv rs t0 x HX2.o hrl ht0;go_wp2_with fail;go_quiet (fail);generalize (rs:Int)*1048576=x126;clear Vz;go_wp2;go_roundw;exact⟨g - 1,rs+v1,nd+nq,int_eq af,int_eq af,by omega,by omega,rfl,HD.o.2.1,HD.o.2.2.1⟩;simp[intOf];omega
  have hC:decide ((x:Int)<(g:Int)*(v0:Int))=false:=by
   have e:(g:Int)*(v0:Int)=((g*v0:Nat):Int):=ai;rw[e];simp;omega
  have HX:=aa (HPK.o.stop g rs HG.o.1 zK (.inr (by rw[← hx];omega)));have HX2:=aa hx;clear hx;have Vz:=Lv rs t0 x HX2.o hrl ht0;go_wp2_with fail;go_quiet (fail);generalize (rs:Int)*1048576=x126;clear Vz;go_wp2_with fail;rw[show j+v.length+1 - j=v.length+1 by omega];refine(Cq (cu:=cu) (cv:=cv) HW.o Re VB D8 (by have:=Yj.o;omega) zK HX.o).mono ?_;intro e w1 hpost;obtain⟨d,rfl,I7,hAt⟩:=EP HW.o Yj.o VE.o af Zs Zt VB HVAL.o fO hgub D8 hgv HG.o.2 HX.o hpost;clear hpost;have hcq:b_ w1 gq j (bU ((q.getD j 0:Nat):Int)):=I7.nat (by have:=VE.o;omega);generalize q.getD j 0=qj at hcq;have hfq:=I7.frozen j;have Vw:=aa hAt;clear hAt;go_wp2;go_roundw;exact⟨j,by omega,rfl,Vw.o⟩;simp[intOf]
theorem N4 (a b:List Nat) (A A':Option Addr) (c c':Nat) (w:World) (hca:Canon a) (hcb:Canon b) (ha:ji w A (a.map nv)) (hb:ji w A' (b.map nv)) (hl:a.length≤400000) (hl':b.length≤400000) (hne:b≠[]):Calls prog 308 #[bW A a c,bW A' b c'] w (tT (val a) (val b) w):=by
 rcases Nat.lt_or_ge (val a) (val b)with hlt|hge
 (·exact Gf a b A A' c c' w hca hcb ha hb af af hlt);rcases b with _|⟨d,_|⟨d2,r⟩⟩
 (·exact absurd rfl hne)
 ·have hv:val [d]=d:=(by simp[val]);have h0:0<d:=by
   have:=hcb.2 ai;simp at this;omega
  rw[hv]at hge ⊢;exact I6 a d A A' c c' w hca h0 (hcb.1 d ai) ha hb af hge
 exact Gg a (d :: d2 :: r) A A' c c' w hca hcb ha hb hl hl' ai hge
section
def dA (M:Nat) (w:World) (s:Int) (A:Option Addr) (n:Nat) (b:iN):Prop:=b.sign=s∧b.dg.length=n∧n≤M∧ji w A (b.dg.map iv)
section
variable {M M' n:Nat} {w w':World} {s:Int} {A:Option Addr} {b:iN}
theorem dA.bZ (h:dA M w s A n b) (hb:Below w w w'):dA M w' s A n b:=⟨h.1,h.2.1,h.2.2.1,h.2.2.2.bZ hb⟩
theorem dA.alloc (h:dA M w s A n b) (o:Obj):dA M (w.alloc o) s A n b:=⟨h.1,h.2.1,h.2.2.1,h.2.2.2.alloc o⟩
theorem dA.drew (h:dA M w s A n b):dA M w.drew s A n b:=h
theorem dA.drewN (h:dA M w s A n b) (k:Nat):dA M (w.drewN k) s A n b:=h
theorem dA.up (h:dA M w s A n b) (hM:M≤M'):dA M' w s A n b:=⟨h.1,h.2.1,aaC h.2.2.1 hM,h.2.2.2⟩
theorem dA.le (h:dA M w s A n b):n≤M:=h.2.2.1
theorem qW (M:Nat) (w:World):dA M w 0 none 0 zB:=⟨rfl,rfl,aaG _,ji.nil⟩
end
def dW (B:Nat) (A:Option Addr):Prop:=∀ b o,A=bY b o→B≤b
theorem dW.none_ (B:Nat):dW B none:=fun b o h=>by cases h
theorem dW.low {B B':Nat} {A:Option Addr} (h:dW B A) (hB:B'≤B):dW B' A:=fun b o e=>aaC hB (h b o e)
theorem ji.cF {w:World} {A:Option Addr} {xs:List Value} {B g i:Nat} (h:ji w A xs) (hf:dW B A) (hg:g<B) (u:Value):ji (w.setCell (bY g i) u) A xs:=
 h.grown (fJ (World.grownBy.refl w (some g)) i u) (fun b o e h=>by injection h with h;have:=hf b o e;omega)
theorem dA.cF {M n:Nat} {w:World} {s:Int} {A:Option Addr} {b:iN} {B g i:Nat} (h:dA M w s A n b) (hf:dW B A) (hg:g<B) (u:Value):dA M (w.setCell (bY g i) u) s A n b:=⟨h.1,h.2.1,h.2.2.1,h.2.2.2.cF hf hg u⟩
def Su (M:Nat) (b:iN) (w:World) (e:Ending) (w':World):Prop:=∃ s A n c,e= .returned (.agg #[bU s,bW A n c])∧dA M w' s A n b∧dW w A∧Below w w w'
def Zx (M:Nat) (A0:Option Addr) (b:iN) (w:World) (e:Ending) (w':World):Prop:=∃ s A n c,e= .returned (.agg #[bU s,bW A n c])∧dA M w' s A n b∧(A=none∨A=A0)∧Below w w w'
theorem oI {B:Nat} {A A0:Option Addr} (h:A=none∨A=A0) (h0:dW B A0):dW B A:=by
 rcases h with h|h
 (·rw[h];exact dW.none_ B);rw[h];exact h0
theorem jL {M n:Nat} {w:World} {s:Int} {A:Option Addr} {b:iN} (c:Nat) (h:dA M w s A n b) (hM:M≤1000000):Calls prog 283 #[.agg #[bU s,bW A n c]] w (N0 (dD b) w):=by
 obtain⟨rfl,rfl,h3,h4⟩:=h;exact Pp b A c w h4 af
theorem Yk (l:List Nat):(l.map Int.ofNat).map iv=l.map nv:=by
 rw[List.map_map];rfl
theorem N5 {W w1:World} (hb:Below W W w1):(∀ b o,b<W.heap.size→w1.cell? (bY b o)=W.cell? (bY b o))∧(∀ b o,b<W.heap.size→w1.frozen? (bY b o)=W.frozen? (bY b o)):=
 ⟨fun b o h=>hb.cell (p:=bY b o) h,fun b o h=>hb.frozen (p:=bY b o) h⟩
theorem Pt {M:Nat} {w:World} {s:Int} {A:Option Addr} {xs:List Nat} (hd:gI xs) (ha:ji w A (xs.map nv)) (hn:xs.length≤M) (h0:val xs≠0):dA M w s A (gJ (val xs)).length (pq s (val xs)):=by
 have:=tM hd
 refine⟨by unfold pq;rw[if_neg h0],by simp[pq],by omega,?_⟩
 show ji w A (((gJ (val xs)).map Int.ofNat).map iv)
 rw[Yk]
 have:=ha.oy (gJ (val xs)).length
 rwa [← List.map_take, ← vN hd]at this
theorem oJ {n:Nat} (M:Nat) (s:Int) (xs:List Nat) (A:Option Addr) (c:Nat) (w:World) (hn:xs.length=n) (hd:gI xs) (ha:ji w A (xs.map nv)) (hc:n≤c) (hl:n≤M) (hM:M≤1000000):Calls prog 248 #[bU s,bW A n c] w (Zx M A (pq s (val xs)) w):=by
 subst hn;have ht:=fun W (h:ji W A (xs.map nv))=>qw xs A c W hd h hc af;have HT:=aa (ht _ (ha.alloc (.cells #[bU 0,cD] 161)));clear ht;have hb:Below w w (w.alloc (.cells #[bU 0,cD] 161)):=cS _;by_cases h0:val xs=0
 (·have HZ:=aa (show(gJ (val xs)).length=0 by rw[h0,gM];rfl);have HO:=aa (show pq s (val xs)=zB by rw[h0];exact Ip s);clear h0;have hz:(((gJ (val xs)).length:Int)==0)=true:=(by rw[HZ.o];rfl);go_enter func248,ntmps248;go_wp2_with (go_at_call 282;refine HT.o.mono ?_;rintro e w' ⟨rfl,rfl⟩);rw[HO.o];exact bodyPost_ret (v:= .agg #[bU 0,cD]) (by simp[results,results248,go_sem]) rfl ⟨0,none,0,0,rfl,qW _ _,.inl rfl,hb⟩);have hnz:(gJ (val xs)).length≠0:=fun h=>h0 ((mW _).1 (aaj h));have hz:(((gJ (val xs)).length:Int)==0)=false:=(by simpa using hnz);have HO:=aa (fun W (h:ji W A (xs.map nv))=>Pt (s:=s) hd h hl h0);clear h0 hnz;go_enter func248,ntmps248;go_wp2_with (go_at_call 282;refine HT.o.mono ?_;rintro e w' ⟨rfl,rfl⟩);exact bodyPost_ret (v:= .agg #[bU s,bW A (gJ (val xs)).length c]) (by simp[results,results248,go_sem]) rfl ⟨s,A,_,c,rfl,HO.o _ (ha.bZ (cS _)),.inr rfl,cS _⟩
def Ws (M:Nat) (A0:Option Addr) (b:iN) (m:Int) (w:World) (e:Ending) (w':World):Prop:=∃ s A n c,e= .returned (.tuple #[.agg #[bU s,bW A n c],bU m])∧dA M w' s A n b∧(A=none∨A=A0)∧Below w w w'
def N6 (M:Nat) (b:iN) (m:Int) (w:World) (e:Ending) (w':World):Prop:=∃ s A n c,e= .returned (.tuple #[.agg #[bU s,bW A n c],bU m])∧dA M w' s A n b∧dW w A∧Below w w w'
theorem zQ {M n:Nat} {s:Int} {A:Option Addr} {b:iN} (r:Bool) (c:Nat) (w:World) (h:dA M w s A n b):Calls prog 307 #[.bool r,.agg #[bU s,bW A n c]] w (Ws M A (if r then b else zB) (if r then 0 else 1) w):=by
 have hb:∀ o1 o2,Below w w ((w.alloc o1).alloc o2):=fun o1 o2=>(cS _).alloc ai _;have H:=aa h;clear h;cases r with
 |true=>
  go_enter func307,ntmps307;go_wp2;exact bodyPost_ret (v:= .tuple #[.agg #[bU s,bW A n c],bU 0]) (by simp[results,results307,go_sem]) rfl ⟨s,A,n,c,rfl,(H.o.alloc _).alloc _,.inr rfl,hb _ _⟩
 |false=>
  go_enter func307,ntmps307;go_wp2;exact bodyPost_ret (v:= .tuple #[.agg #[bU 0,cD],bU 1]) (by simp[results,results307,go_sem]) rfl ⟨0,none,0,0,rfl,qW _ _,.inl rfl,hb _ _⟩
def Zy (l:List Nat) (n:Nat) (w:World) (e:Ending) (w':World):Prop:=∃ A' c',e= .returned (bW A' n c')∧ji w' A' (l.map nv)∧n≤c'∧dW w A'∧Below w w w'
theorem N7 {n:Nat} (l:List Nat) (A:Option Addr) (c:Nat) (w:World) (hn:l.length=n) (ha:ji w A (l.map nv)) (hl:n≤1000000):Calls prog 306 #[bW A n c] w (Zy l n w):=by
 subst hn;have:=EO (l.map nv) A c w (Sp l) ha (by simpa using hl);rw[aap]at this;refine this.mono ?_;rintro e w' ⟨A',c',h1,h2,h3,h4,h5⟩;rw[aap]at h1 h3;exact⟨A',c',h1,h2,h3,h4,h5⟩
theorem iG {M n:Nat} {w:World} {s:Int} {A:Option Addr} {b:iN} (h:dA M w s A n b) (hr:dD b=true):(jA b.dg).length=n∧Canon (jA b.dg)∧ji w A ((jA b.dg).map nv)∧-1≤s∧s≤1∧(s=0↔val (jA b.dg)=0):=by
 obtain⟨rfl,rfl,h3,h4⟩:=h;have hs:=pE hr;refine⟨by simp[jA],vP hr,by rw[← Yk,Ez (uL hr)];exact h4,by omega,by omega,(kW hr).symm⟩
end
theorem ep {w w':World} (h:Below w.drew.heap.size w.drew w'):Below w w w':=⟨h.os,h.tape,h.output,h.size,h.block⟩
def MulN (v:Nat) (w:World) (e:Ending) (w':World):Prop:=∃ A l c,e= .returned (bW A l c)∧ji w' A ((gJ v).map nv)∧((gJ v).length≤c∧(gJ v).length=l)∧dW w A∧Below w w w'
theorem mul_n {n n':Nat} (a b:List Nat) (A A':Option Addr) (c c':Nat) (w:World) (hn:a.length=n) (hn':b.length=n') (hda:gI a) (hdb:gI b) (ha:ji w A (a.map nv)) (hb:ji w A' (b.map nv)) (hl:n+n'≤1000000):Calls prog 312 #[bW A n c,bW A' n' c'] w (MulN (val a*val b) w):=by
 subst hn hn';refine(Ge a b A A' c c' w hda hdb ha hb hl).mono ?_;rintro e w' ⟨cc,h1,h2,h3,h4,h5⟩;exact⟨_,_,cc,h1,h4.arr,⟨h2,rfl⟩,fun b o e=>by injection e with e;injection e with e;omega,h5⟩
theorem Wt {n n' M M':Nat} {a b:List Nat} (hn:a.length=n) (hn':b.length=n') (hda:gI a) (hdb:gI b) (h:n≤M) (h':n'≤M'):(gJ (val a*val b)).length≤M+M':=by
 have h1:(gJ (val a*val b)).length≤a.length+b.length:=pT (by
  rw[Nat.pow_add];exact Nat.mul_lt_mul'' (j5 hda) (j5 hdb))
 omega
theorem LW {s t:Int} (h1:-1≤s) (h2:s≤1) (h3:-1≤t) (h4:t≤1):-9223372036854775808≤s*t∧s*t≤9223372036854775807:=by
 rcases(show s=-1∨s=0∨s=1 by omega)with h|h|h<;>subst h<;>simp<;>omega
theorem Sv {M M' n n':Nat} {s s':Int} {A A':Option Addr} {a b:iN} (c c':Nat) (w:World) (h:dA M w s A n a) (h':dA M' w s' A' n' b) (vF:dD a=true) (hrb:dD b=true) (hM:M+M'≤1000000):Calls prog 288 #[.agg #[bU s,bW A n c],.agg #[bU s',bW A' n' c']] w (N6 (M+M') (rR a b) 0 w):=by
 have hr:=fun W (h:dA M W s A n a)=>jL c h af;have hr':=fun W (h:dA M' W s' A' n' b)=>jL c' h af;rw[vF]at hr;rw[hrb]at hr';have H:=aa h;have H':=aa h';have HR:=aa hr;have Sw:=aa hr';have hle:=h.le;have hle':=h'.le;obtain⟨p1,p2,p3,p4,p5,p6⟩:=iG h vF;obtain⟨q1,q2,q3,q4,q5,q6⟩:=iG h' hrb;have HN:=aa (show rR a b=pq (s*s') (val (jA a.dg)*val (jA b.dg)) by unfold rR;rw[vF,hrb,h.1,h'.1];rfl);have HM:=aa (fun W (k:ji W A ((jA a.dg).map nv)) (k':ji W A' ((jA b.dg).map nv))=>mul_n (n:=n) (n':=n') (jA a.dg) (jA b.dg) A A' c c' W p1 q1 p2.1 q2.1 k k' af);have HSg:=aa (fun W A3 c3 (k:ji W A3 ((gJ (val (jA a.dg)*val (jA b.dg))).map nv)) (hc:(gJ (val (jA a.dg)*val (jA b.dg))).length≤c3)=>oJ (n:=(gJ (val (jA a.dg)*val (jA b.dg))).length) (M+M') (s*s') (gJ (val (jA a.dg)*val (jA b.dg))) A3 c3 W rfl (mR _) k hc (Wt p1 q1 p2.1 q2.1 hle hle') hM);have HP:=aa p3;have HQ:=aa q3;have hw1:IntKind.i64.wrap (s*s')=s*s':=IntWalk.i64_in _ (LW p4 p5 q4 q5);clear hr hr' h h' vF hrb p1 p2 p3 p6 q1 q2 q3 q6;go_enter func288,ntmps288;go_wp2_with fail;refine(HR.o _ (((H.o.alloc _).alloc _).alloc _)).mono ?_;rintro e w1 ⟨rfl,hb1⟩;(have hz1:w.heap.size+1+1<w1:=by have:=hb1.size;simp at this;omega);have fO:Below w w w1:=((((aaf _ w).alloc aac _).alloc ai _).alloc aj _).trans (hb1.mono aj);obtain⟨hc1,jw⟩:=N5 hb1;have e0:b_ w1 w 0 (bU s):=(by rw[hc1 (w.heap.size) 0 aj];simp[go_sem]);have e1:b_ w1 w 1 (bW A n c):=(by rw[hc1 (w.heap.size) 1 aj];simp[go_sem]);have e2:b_ w1 (w+1) 0 (bU s'):=(by rw[hc1 (w+1) 0 aj];simp[go_sem]);have e3:b_ w1 (w+1) 1 (bW A' n' c'):=(by rw[hc1 (w+1) 1 aj];simp[go_sem]);have e4:b_ w1 (w+1+1) 0 (bU 0):=(by rw[hc1 (w+1+1) 0 aj];simp[go_sem]);have e4f:w1.frozen? (bY (w+1+1) 0)=false:=(by rw[jw (w+1+1) 0 aj];simp[go_sem]);have e5:b_ w1 (w+1+1) 1 (bW none 0 0):=(by rw[hc1 (w+1+1) 1 aj];simp[go_sem]);have e5f:w1.frozen? (bY (w+1+1) 1)=false:=(by rw[jw (w+1+1) 1 aj];simp[go_sem]);have sF:=aa fO;clear hb1 hc1 jw fO;go_wp2_with fail;refine(Sw.o _ (H'.o.bZ sF.o)).mono ?_;rintro e w2 ⟨rfl,hb2⟩;have hz2:w.heap.size+1+1<w2:=aaD hz1 hb2.size;have e0b:b_ w2 w 0 (bU s):=(hb2.cell (p:=bY w 0) (show w.heap.size<_ by omega)).trans e0;have e1b:b_ w2 w 1 (bW A n c):=(hb2.cell (p:=bY w 1) (show w.heap.size<_ by omega)).trans e1;have e2b:b_ w2 (w+1) 0 (bU s'):=(hb2.cell (p:=bY (w+1) 0) (show w.heap.size+1<_ by omega)).trans e2;have e3b:b_ w2 (w+1) 1 (bW A' n' c'):=(hb2.cell (p:=bY (w+1) 1) (show w.heap.size+1<_ by omega)).trans e3;have e4b:b_ w2 (w+1+1) 0 (bU 0):=(hb2.cell (p:=bY (w+1+1) 0) (show w.heap.size+1+1<_ by omega)).trans e4;have Wu:w2.frozen? (bY (w+1+1) 0)=false:=(hb2.frozen (p:=bY (w+1+1) 0) (show w.heap.size+1+1<_ by omega)).trans e4f;have e5b:b_ w2 (w+1+1) 1 (bW none 0 0):=(hb2.cell (p:=bY (w+1+1) 1) (show w.heap.size+1+1<_ by omega)).trans e5;have Wv:w2.frozen? (bY (w+1+1) 1)=false:=(hb2.frozen (p:=bY (w+1+1) 1) (show w.heap.size+1+1<_ by omega)).trans e5f;have dG:=aa (sF.o.trans (hb2.mono sF.o.size));clear hb2 sF e0 e1 e2 e3 e4 e5 e4f e5f;have Vx:¬(w.heap.size=w.heap.size+1+1):=af;have hn2:¬(w.heap.size+1+1=w):=af;go_wp2_with fail;go_region_held3 (fun w'=>b_ w' w 0 (bU s)∧b_ w' w 1 (bW A n c)∧b_ w' (w+1) 0 (bU s')∧b_ w' (w+1) 1 (bW A' n' c')) (go_keep)
  (first
   |(go_at_call 312;(with_reducible refine(HM.o _ (HP.o.bZ dG.o).drew (HQ.o.bZ dG.o).drew).mono ?_);rintro e w3 ⟨A3,l3,c3,rfl,Cs,hl3,hf3,hb3⟩;have Zz:=aa hl3;have Rf:=aa hf3;have zR:=aa Cs;have eF:=aa (dG.o.trans ((ep hb3).mono dG.o.size));have ZA:b_ w3 w 0 (.int .i64 s):=((ep hb3).cell (p:=⟨w,0,none⟩) (show w.heap.size<_ by omega)).trans e0b;have ZB:b_ w3 w 1 (.slice A n c):=((ep hb3).cell (p:=⟨w,1,none⟩) (show w.heap.size<_ by omega)).trans e1b;have ZC:b_ w3 (w+1) 0 (Value.int .i64 s'):=((ep hb3).cell (p:=⟨↑w+1,0,none⟩) (show w.heap.size+1<_ by omega)).trans e2b;have ZE:b_ w3 (w+1) 1 (Value.slice A' n' c'):=((ep hb3).cell (p:=⟨↑w+1,1,none⟩) (show w.heap.size+1<_ by omega)).trans e3b;have ZF:b_ w3 (w+1+1) 0 (Value.int .i64 0):=((ep hb3).cell (p:=⟨↑w+1+1,0,none⟩) (show w.heap.size+1+1<_ by omega)).trans e4b;have Sy:w3.frozen? ⟨↑w+1+1,0,none⟩=false:=((ep hb3).frozen (p:=⟨↑w+1+1,0,none⟩) (show w.heap.size+1+1<_ by omega)).trans Wu;have ZG:b_ w3 (w+1+1) 1 (Value.slice none 0 0):=((ep hb3).cell (p:=⟨↑w+1+1,1,none⟩) (show w.heap.size+1+1<_ by omega)).trans e5b;have Sz:w3.frozen? ⟨↑w+1+1,1,none⟩=false:=((ep hb3).frozen (p:=⟨↑w+1+1,1,none⟩) (show w.heap.size+1+1<_ by omega)).trans Wv;have hz3:w.heap.size+1+1<w3:=aaD hz2 (ep hb3).size;clear hb3 hf3 hl3 Cs)
   |(go_at_call 248;(with_reducible refine(Zz.o.2▸HSg.o _ _ _ zR.o Zz.o.1).mono ?_);rintro e w4 ⟨s4,A4,n4,c4,rfl,I9,ER,hb4⟩;have LX:=aa I9;have Ww:=aa (oI ER Rf.o);have gC:=aa (eF.o.trans (hb4.mono eF.o.size));have e0bcd:b_ w4 w 0 (.int .i64 s):=(hb4.cell (p:=⟨w,0,none⟩) (show w.heap.size<_ by omega)).trans ZA;have e1bcd:b_ w4 w 1 (.slice A n c):=(hb4.cell (p:=⟨w,1,none⟩) (show w.heap.size<_ by omega)).trans ZB;have e2bcd:b_ w4 (w+1) 0 (Value.int .i64 s'):=(hb4.cell (p:=⟨↑w+1,0,none⟩) (show w.heap.size+1<_ by omega)).trans ZC;have e3bcd:b_ w4 (w+1) 1 (Value.slice A' n' c'):=(hb4.cell (p:=⟨↑w+1,1,none⟩) (show w.heap.size+1<_ by omega)).trans ZE;have e4bcd:b_ w4 (w+1+1) 0 (Value.int .i64 0):=(hb4.cell (p:=⟨↑w+1+1,0,none⟩) (show w.heap.size+1+1<_ by omega)).trans ZF;have ZH:w4.frozen? ⟨↑w+1+1,0,none⟩=false:=(hb4.frozen (p:=⟨↑w+1+1,0,none⟩) (show w.heap.size+1+1<_ by omega)).trans Sy;have e5bcd:b_ w4 (w+1+1) 1 (Value.slice none 0 0):=(hb4.cell (p:=⟨↑w+1+1,1,none⟩) (show w.heap.size+1+1<_ by omega)).trans ZG;have ZI:w4.frozen? ⟨↑w+1+1,1,none⟩=false:=(hb4.frozen (p:=⟨↑w+1+1,1,none⟩) (show w.heap.size+1+1<_ by omega)).trans Sz;have hz4:w.heap.size+1+1<w4:=aaD hz3 hb4.size;clear hb4 ER I9)
   |(go_at_call 307;(with_reducible refine(zQ true _ _ LX.o).mono ?_);rintro e w5 ⟨s5,A5,n5,c5,rfl,nX,Pu,ew⟩;have x7:=aa nX;have pK:=aa (oI Pu Ww.o);have dF:=aa (gC.o.trans (ew.mono gC.o.size));have e0bcdg:b_ w5 w 0 (.int .i64 s):=(ew.cell (p:=⟨w,0,none⟩) (show w.heap.size<_ by omega)).trans e0bcd;have e1bcdg:b_ w5 w 1 (.slice A n c):=(ew.cell (p:=⟨w,1,none⟩) (show w.heap.size<_ by omega)).trans e1bcd;have e2bcdg:b_ w5 (w+1) 0 (Value.int .i64 s'):=(ew.cell (p:=⟨↑w+1,0,none⟩) (show w.heap.size+1<_ by omega)).trans e2bcd;have e3bcdg:b_ w5 (w+1) 1 (Value.slice A' n' c'):=(ew.cell (p:=⟨↑w+1,1,none⟩) (show w.heap.size+1<_ by omega)).trans e3bcd;have ZJ:b_ w5 (w+1+1) 0 (Value.int .i64 0):=(ew.cell (p:=⟨↑w+1+1,0,none⟩) (show w.heap.size+1+1<_ by omega)).trans e4bcd;have e4bcdgf:w5.frozen? ⟨↑w+1+1,0,none⟩=false:=(ew.frozen (p:=⟨↑w+1+1,0,none⟩) (show w.heap.size+1+1<_ by omega)).trans ZH;have ZK:b_ w5 (w+1+1) 1 (Value.slice none 0 0):=(ew.cell (p:=⟨↑w+1+1,1,none⟩) (show w.heap.size+1+1<_ by omega)).trans e5bcd;have e5bcdgf:w5.frozen? ⟨↑w+1+1,1,none⟩=false:=(ew.frozen (p:=⟨↑w+1+1,1,none⟩) (show w.heap.size+1+1<_ by omega)).trans ZI;have hz5:w.heap.size+1+1<w5:=aaD hz4 ew.size;clear ew Pu nX))
 clear hw1;go_wp2;rw[HN.o];have hf:dW w2 A5:=pK.o;(have nX:dA (M+M') w5 s5 A5 n5 (pq (s*s') (val (jA a.dg)*val (jA b.dg))):=by have:=x7.o;rw[jY]at this;exact this);exact bodyPost_ret (v:= .tuple #[.agg #[bU s5,bW A5 n5 c5],bU 0]) (by simp[results,results288,go_sem,ZJ,ZK]) rfl ⟨s5,A5,n5,c5,rfl,(nX.cF hf hz2 _).cF hf hz2 _,hf.low dG.o.size,(dF.o.setCell aj _).setCell aj _⟩
theorem div_n {x y M:Nat} {A A':Option Addr} {c c':Nat} (w:World) (ha:ji w A ((gJ x).map nv)) (hb:ji w A' ((gJ y).map nv)) (hx:(gJ x).length≤M) (hy:(gJ y).length≤M) (hM:M≤400000) (h0:y≠0):Calls prog 308 #[bW A (gJ x).length c,bW A' (gJ y).length c'] w (tT x y w):=by
 have:=N4 (gJ x) (gJ y) A A' c c' w (qg x) (qg y) ha hb af af (fun e=>h0 ((mW y).1 e));rw[jY,jY]at this;exact this
def x_ (w:World) (v:Value) (n:Nat):Prop:=∃ A c,v=bW A (gJ n).length c∧ji w A ((gJ n).map nv)
theorem x_.bZ {w w':World} {v:Value} {n:Nat} (h:x_ w v n) (hb:Below w w w'):x_ w' v n:=by
 obtain⟨A,c,h1,h2⟩:=h;exact⟨A,c,h1,h2.bZ hb⟩
theorem uT.to0 {B:Nat} {w:World} {v:Value} {n:Nat} (h:uT B w v n):x_ w v n:=by
 obtain⟨A,c,h1,h2,h3,_⟩:=h;exact⟨A,c,h1,h3⟩
def Yl (G M:Nat) (w wr:World) (x y:Nat) (v6 v7:Value):Prop:=
 Nat.gcd x y=G∧(gJ x).length≤M∧(gJ y).length≤M∧x_ wr v6 x∧x_ wr v7 y∧Below w w wr
theorem N8 {M M' n n':Nat} {s s':Int} {A A':Option Addr} {a b:iN} (c c':Nat) (w:World) (h:dA M w s A n a) (h':dA M' w s' A' n' b) (vF:dD a=true) (hrb:dD b=true) (hM:M+M'≤400000):Calls prog 285 #[.agg #[bU s,bW A n c],.agg #[bU s',bW A' n' c']] w (N6 (M+M') (pq 1 (Nat.gcd (dR a) (dR b))) 0 w):=by
 have hr:=fun W (h:dA M W s A n a)=>jL c h af;have hr':=fun W (h:dA M' W s' A' n' b)=>jL c' h af;rw[vF]at hr;rw[hrb]at hr';have H:=aa h;have H':=aa h';have HR:=aa hr;have Sw:=aa hr';have hle:=h.le;have hle':=h'.le;obtain⟨p1,p2,p3,p4,p5,p6⟩:=iG h vF;obtain⟨q1,q2,q3,q4,q5,q6⟩:=iG h' hrb;have HK:=aa (fun W (h:ji W A ((jA a.dg).map nv))=>N7 (n:=n) (jA a.dg) A c W p1 h af);have HP:=aa p3;have HQ:=aa q3;have hda:jA a.dg=gJ (dR a):=kJ p2;have hdb:jA b.dg=gJ (dR b):=kJ q2;have HDA:=aa hda;have HDB:=aa hdb;have Rg:=aa p1;have HLB:=aa q1;clear hr hr' h h' vF hrb p1 p2 p3 p6 q1 q2 q3 q6 hda hdb;go_enter func285,ntmps285;go_wp2_with fail;refine(HR.o _ (((H.o.alloc _).alloc _).alloc _)).mono ?_;rintro e w1 ⟨rfl,hb1⟩;(have hz1:w.heap.size+1+1<w1:=by have:=hb1.size;simp at this;omega);have fO:Below w w w1:=((((aaf _ w).alloc aac _).alloc ai _).alloc aj _).trans (hb1.mono aj);obtain⟨hc1,jw⟩:=N5 hb1;have e0:b_ w1 w 0 (bU s):=(by rw[hc1 (w.heap.size) 0 aj];simp[go_sem]);have e1:b_ w1 w 1 (bW A n c):=(by rw[hc1 (w.heap.size) 1 aj];simp[go_sem]);have e2:b_ w1 (w+1) 0 (bU s'):=(by rw[hc1 (w+1) 0 aj];simp[go_sem]);have e3:b_ w1 (w+1) 1 (bW A' n' c'):=(by rw[hc1 (w+1) 1 aj];simp[go_sem]);have e4:b_ w1 (w+1+1) 0 (bU 0):=(by rw[hc1 (w+1+1) 0 aj];simp[go_sem]);have e4f:w1.frozen? (bY (w+1+1) 0)=false:=(by rw[jw (w+1+1) 0 aj];simp[go_sem]);have e5:b_ w1 (w+1+1) 1 (bW none 0 0):=(by rw[hc1 (w+1+1) 1 aj];simp[go_sem]);have e5f:w1.frozen? (bY (w+1+1) 1)=false:=(by rw[jw (w+1+1) 1 aj];simp[go_sem]);have sF:=aa fO;clear hb1 hc1 jw fO;go_wp2_with fail;refine(Sw.o _ (H'.o.bZ sF.o)).mono ?_;rintro e w2 ⟨rfl,hb2⟩;have hz2:w.heap.size+1+1<w2:=aaD hz1 hb2.size;have e0b:b_ w2 w 0 (bU s):=(hb2.cell (p:=bY w 0) (show w.heap.size<_ by omega)).trans e0;have e1b:b_ w2 w 1 (bW A n c):=(hb2.cell (p:=bY w 1) (show w.heap.size<_ by omega)).trans e1;have e2b:b_ w2 (w+1) 0 (bU s'):=(hb2.cell (p:=bY (w+1) 0) (show w.heap.size+1<_ by omega)).trans e2;have e3b:b_ w2 (w+1) 1 (bW A' n' c'):=(hb2.cell (p:=bY (w+1) 1) (show w.heap.size+1<_ by omega)).trans e3;have e4b:b_ w2 (w+1+1) 0 (bU 0):=(hb2.cell (p:=bY (w+1+1) 0) (show w.heap.size+1+1<_ by omega)).trans e4;have Wu:w2.frozen? (bY (w+1+1) 0)=false:=(hb2.frozen (p:=bY (w+1+1) 0) (show w.heap.size+1+1<_ by omega)).trans e4f;have e5b:b_ w2 (w+1+1) 1 (bW none 0 0):=(hb2.cell (p:=bY (w+1+1) 1) (show w.heap.size+1+1<_ by omega)).trans e5;have Wv:w2.frozen? (bY (w+1+1) 1)=false:=(hb2.frozen (p:=bY (w+1+1) 1) (show w.heap.size+1+1<_ by omega)).trans e5f;have dG:=aa (sF.o.trans (hb2.mono sF.o.size));clear hb2 sF e0 e1 e2 e3 e4 e5 e4f e5f;go_wp2_with fail;go_region_held3 (fun w'=>b_ w' w 0 (bU s)∧b_ w' w 1 (bW A n c)∧b_ w' (w+1) 0 (bU s')∧b_ w' (w+1) 1 (bW A' n' c')) (go_keep)
  (first
   |(go_at_call 306;(with_reducible refine(HK.o _ (HP.o.bZ dG.o).drew).mono ?_);rintro e w3 ⟨A3,c3,rfl,Cs,hl3,hf3,hb3⟩;have Zz:=aa hl3;have Rf:=aa hf3;have zR:=aa Cs;have eF:=aa (dG.o.trans ((ep hb3).mono dG.o.size));have ZA:b_ w3 w 0 (.int .i64 s):=((ep hb3).cell (p:=⟨w,0,none⟩) (show w.heap.size<_ by omega)).trans e0b;have ZB:b_ w3 w 1 (.slice A n c):=((ep hb3).cell (p:=⟨w,1,none⟩) (show w.heap.size<_ by omega)).trans e1b;have ZC:b_ w3 (w+1) 0 (Value.int .i64 s'):=((ep hb3).cell (p:=⟨↑w+1,0,none⟩) (show w.heap.size+1<_ by omega)).trans e2b;have ZE:b_ w3 (w+1) 1 (Value.slice A' n' c'):=((ep hb3).cell (p:=⟨↑w+1,1,none⟩) (show w.heap.size+1<_ by omega)).trans e3b;have ZF:b_ w3 (w+1+1) 0 (Value.int .i64 0):=((ep hb3).cell (p:=⟨↑w+1+1,0,none⟩) (show w.heap.size+1+1<_ by omega)).trans e4b;have Sy:w3.frozen? ⟨↑w+1+1,0,none⟩=false:=((ep hb3).frozen (p:=⟨↑w+1+1,0,none⟩) (show w.heap.size+1+1<_ by omega)).trans Wu;have ZG:b_ w3 (w+1+1) 1 (Value.slice none 0 0):=((ep hb3).cell (p:=⟨↑w+1+1,1,none⟩) (show w.heap.size+1+1<_ by omega)).trans e5b;have Sz:w3.frozen? ⟨↑w+1+1,1,none⟩=false:=((ep hb3).frozen (p:=⟨↑w+1+1,1,none⟩) (show w.heap.size+1+1<_ by omega)).trans Wv;have hz3:w.heap.size+1+1<w3:=aaD hz2 (ep hb3).size;clear hb3 hf3 hl3 Cs))
 have hst:Yl (Nat.gcd (dR a) (dR b)) (M+M') w3 w3 (dR a) (dR b) (bW A3 n c3) (bW A' n' c'):=by
  have e1:(gJ (dR a)).length=n:=(by rw[← HDA.o];exact Rg.o);have e2:(gJ (dR b)).length=n':=(by rw[← HDB.o];exact HLB.o);exact⟨rfl,by omega,by omega,⟨A3,c3,by rw[e1],by rw[← HDA.o];exact zR.o⟩,⟨A',c',by rw[e2],by rw[← HDB.o];exact HQ.o.bZ eF.o⟩,aaf _ _⟩
 go_wp2_with fail;clear e0b e1b e2b e3b e4b e5b Wu Wv ZA ZB ZC ZE hz2;go_loopg [6,7] (dR b) (fun g v6 v7 wr=>∃ x,Yl (Nat.gcd (dR a) (dR b)) (M+M') w3 wr x g v6 v7);(case atStart=>exact⟨dR a,hst⟩);clear hst;obtain⟨x,hgc,hlx,hly,⟨A6,c6,rfl,N9⟩,⟨A7,c7,rfl,Rh⟩,hbr⟩:=hrel;have HG:=aa hgc;have LY:=aa hbr;have Ym:w.heap.size+1+1<wr:=aaD hz3 hbr.size;have k4:b_ wr (w+1+1) 0 (bU 0):=(hbr.cell (p:=bY (w+1+1) 0) (show w.heap.size+1+1<_ by omega)).trans ZF;have k5:b_ wr (w+1+1) 1 (bW none 0 0):=(hbr.cell (p:=bY (w+1+1) 1) (show w.heap.size+1+1<_ by omega)).trans ZG;have k4f:wr.frozen? (bY (w+1+1) 0)=false:=(hbr.frozen (p:=bY (w+1+1) 0) (show w.heap.size+1+1<_ by omega)).trans Sy;have k5f:wr.frozen? (bY (w+1+1) 1)=false:=(hbr.frozen (p:=bY (w+1+1) 1) (show w.heap.size+1+1<_ by omega)).trans Sz;clear hgc hbr;by_cases hy:gk=0
 (·have hl0:¬0<(gJ gk).length:=(by rw[hy,gM];simp);have hgx:Nat.gcd (dR a) (dR b)=x:=(by rw[← HG.o,hy,Nat.gcd_zero_right]);have HGX:=aa hgx;have HC:=aa (N7 (n:=(gJ x).length) (gJ x) A6 c6 wr rfl N9 af);clear hy hgx;go_wp2_with fail;refine HC.o.mono ?_;rintro e w4 ⟨A8,c8,rfl,hA8,hl8,hf8,hb4⟩;have gC:=aa hb4;have HF8:=aa hf8;have HS:=aa (oJ (n:=(gJ x).length) (M+M') 1 (gJ x) A8 c8 w4 rfl (mR x) hA8 hl8 hlx af);clear hb4 hf8 HC;go_wp2_with fail;refine HS.o.mono ?_;rintro e w5 ⟨s5,A5,n5,c5,rfl,nX,Pu,ew⟩;have dF:=aa (gC.o.trans (ew.mono gC.o.size));have pK:=aa (oI Pu HF8.o);have wC:=aa (zQ true c5 w5 nX);clear ew Pu HS nX;go_wp2_with fail;refine wC.o.mono ?_;rintro e w6 ⟨s6,A9,n6,c9,rfl,hA9,ZL,eO⟩;have eA:=aa (dF.o.trans (eO.mono dF.o.size));have HF9:=aa (oI ZL pK.o);have ZM:=aa hA9;have m4:b_ w6 (w+1+1) 0 (bU 0):=(eA.o.cell (p:=bY (w+1+1) 0) Ym).trans k4;have m5:b_ w6 (w+1+1) 1 (bW none 0 0):=(eA.o.cell (p:=bY (w+1+1) 1) Ym).trans k5;have m4f:w6.frozen? (bY (w+1+1) 0)=false:=(eA.o.frozen (p:=bY (w+1+1) 0) Ym).trans k4f;have m5f:w6.frozen? (bY (w+1+1) 1)=false:=(eA.o.frozen (p:=bY (w+1+1) 1) Ym).trans k5f;clear eO ZL wC hA9 k4 k5 k4f k5f;go_wp2;have hf:dW wr A9:=HF9.o;(have hA:dA (M+M') w6 s6 A9 n6 (pq 1 (Nat.gcd (dR a) (dR b))):=by have:=ZM.o;rw[jY]at this;rw[HGX.o];exact this);have hbb:Below w w w6:=(eF.o.trans (LY.o.mono eF.o.size)).trans (eA.o.mono (aaC eF.o.size LY.o.size));exact bodyPost_ret (v:= .tuple #[.agg #[bU s6,bW A9 n6 c9],bU 0]) (by simp[results,results285,go_sem,m4,m5]) rfl ⟨s6,A9,n6,c9,rfl,(hA.cF hf Ym _).cF hf Ym _,hf.low (aaC eF.o.size LY.o.size),(hbb.setCell aj _).setCell aj _⟩);have hl0:0<(gJ gk).length:=List.length_pos_iff.2 (fun e=>hy ((mW gk).1 e));have HD:=aa (div_n (c:=c6) (c':=c7) wr N9 Rh hlx hly hM hy);have hyp:0<gk:=af;clear hy;go_wp2_with fail;refine HD.o.mono ?_;rintro e w4 ⟨q,r,rfl,hq,hr,hb4⟩;have HRR:=aa hr;have gC:=aa hb4;clear HD hq hr hb4;go_wp2;go_roundg (x % gk);(case measure=>exact Nat.mod_lt _ hyp);refine⟨gk,by rw[RJ];exact HG.o,hly,?_,⟨A7,c7,rfl,Rh.bZ gC.o⟩,HRR.o.to0,LY.o.trans (gC.o.mono LY.o.size)⟩;exact aaC (kq (Nat.le_of_lt (Nat.mod_lt _ hyp))) hly
def Wx (v:Nat) (w:World) (e:Ending) (w':World):Prop:=∃ (z:Int) (ok:Bool),e= .returned (.tuple #[bU z,.bool ok])∧(ok&&z==1)=(v==1)∧Below w w w'
theorem Gh (a b k:Nat) (ha:a<2 ^ k) (hk:k≤60) (hb:b*2 ^ k<18446744073709551616):bits .or .u64 (a:Int) ((b*2 ^ k:Nat):Int)=((a+b*2 ^ k:Nat):Int):=by
 have h1:(BitVec.ofInt 64 (a:Int)).toNat=a:=by
  rw[BitVec.ofInt_natCast,BitVec.toNat_ofNat];refine Nat.mod_eq_of_lt ?_;have:2 ^ k≤2 ^ 60:=Nat.pow_le_pow_right af hk;omega
 have h2:(BitVec.ofInt 64 ((b*2 ^ k:Nat):Int)).toNat=b*2 ^ k:=by
  rw[BitVec.ofInt_natCast,BitVec.toNat_ofNat];exact Nat.mod_eq_of_lt hb
 show IntKind.u64.wrap ((BitVec.ofInt 64 (a:Int)|||BitVec.ofInt 64 ((b*2 ^ k:Nat):Int)).toNat:Int)=_;rw[BitVec.toNat_or,h1,h2,Nat.or_comm, ← Nat.shiftLeft_eq, ← Nat.shiftLeft_add_eq_or_of_lt ha,Nat.shiftLeft_eq];have h3:a+b*2 ^ k<18446744073709551616:=by
  have h4:b*2 ^ k+2 ^ k≤18446744073709551616:=by
   (have hd:18446744073709551616=2 ^ (64 - k)*2 ^ k:=by rw[← Nat.pow_add,show 64 - k+k=64 by omega]);rw[hd]at hb ⊢;have:=Nat.lt_of_mul_lt_mul_right hb;have h5:=aaF (2 ^ k) (show b+1≤2 ^ (64 - k)from this);rw[aaA,Nat.one_mul]at h5;exact h5
  omega
 rw[Nat.add_comm];rw[IntKind.wrap_u64];omega
theorem SA (u:Nat) (h:u<9223372036854775808) (W:World):(convert 252 3 (.int .u64 (u:Int))).run prog W= .ok (bU (u:Int)) W:=by
 simp[go_sem];exact fQ af
theorem Wy {M n:Nat} {A:Option Addr} {b:iN} (c:Nat) (w:World) (h:dA M w 1 A n b) (hr:dD b=true) (hM:M≤1000000):Calls prog 311 #[.agg #[bU 1,bW A n c]] w (Wx (dR b) w):=by
 have hri:=fun W (h:dA M W 1 A n b)=>jL c h hM;rw[hr]at hri;have HR:=aa hri;have H:=aa h;have hle:=h.le;obtain⟨p1,p2,p3,p4,p5,p6⟩:=iG h hr;have hbv:dR b=val (jA b.dg):=rfl;rw[hbv];generalize jA b.dg=xs at*;clear hri h hr p4 p5 p6 hbv;have HL:=aa p1;have HP:=aa p3;by_cases hn4:4<n
 ·have HV:=aa (show(val xs==1)=false by
   have:=mX p2 (fun e=>by rw[e]at p1;simp at p1;omega);have h3:1048576 ^ 4≤1048576 ^ (xs.length - 1):=Nat.pow_le_pow_right af af;rw[beq_eq_false_iff_ne];intro e;rw[e]at this;omega)
  clear p1 p2 p3;go_enter func311,ntmps311;go_wp2_with fail;refine(HR.o _ (H.o.alloc _)).mono ?_;rintro e w1 ⟨rfl,hb1⟩;have fO:Below w w w1:=((aaf _ w).alloc aac _).trans (hb1.mono ai);obtain⟨hc1,jw⟩:=N5 hb1;(have hz1:w.heap.size<w1:=by have:=hb1.size;simp at this;omega);have e1:b_ w1 w 1 (bW A n c):=(by rw[hc1 (w.heap.size) 1 ai];simp);clear hb1 hc1 jw;go_wp2;go_ret2;exact⟨0,false,rfl,by rw[HV.o];rfl,fO⟩
 have hcan:=p2;have hd:=p2.1;clear p3;go_enter func311,ntmps311;go_wp2_with fail;refine(HR.o _ (H.o.alloc _)).mono ?_;rintro e w1 ⟨rfl,hb1⟩;have fO:Below w w w1:=((aaf _ w).alloc aac _).trans (hb1.mono ai);obtain⟨hc1,jw⟩:=N5 hb1;(have hz1:w.heap.size<w1:=by have:=hb1.size;simp at this;omega);have e0:b_ w1 w 0 (bU 1):=(by rw[hc1 (w.heap.size) 0 ai];simp);have e1:b_ w1 w 1 (bW A n c):=(by rw[hc1 (w.heap.size) 1 ai];simp);have HB:=aa fO;have VG:=aa (HP.o.bZ fO);clear hb1 hc1 jw fO p1 p2 hcan;go_wp2;go_loop [4,19] (fun t r=>∃ i u:Nat,i≤n∧t= .int .u64 (u:Int)∧r=bU (i:Int)∧u<1048576 ^ i∧(i=4→u<10376293541461622784)∧Hid (val (xs.take i)=u)) (fun _ r=>n - (intOf r).toNat);(case atStart=>exact⟨0,0,aaG _,rfl,rfl,by simp,fun h=>by omega,by show val (xs.take 0)=0;simp[val]⟩);obtain⟨i,u,hi,rfl,rfl,hu,hu4,HU⟩:=hrel;by_cases hlt:i<n
 ·obtain⟨b1,off1,d,rfl,Co,hcell,Vy,HD⟩:=VG.o.dg hd (k:=i) (by have:=HL.o;omega);(have hlx:n≤xs.length:=by have:=HL.o;omega);clear hu4;by_cases h38:i=3∧8<d
  ·obtain⟨rfl,h8⟩:=h38;have HV:=aa (show(val xs==1)=false by
    rw[beq_eq_false_iff_ne];intro e;have h1:=kV xs 3 af;have h2:=mV xs 3 af;rw[HD.o]at h2;rw[h2]at h1;omega)
   have hd8:decide ((8:Int)<(d:Int))=true:=au;go_wp2;go_ret2;exact⟨0,false,rfl,by rw[HV.o];rfl,HB.o⟩
  rcases(show i=0∨i=1∨i=2∨i=3 by omega)with rfl|rfl|rfl|rfl
  (·have HN:=aa (show val (xs.take (0+1))=u+d*1 by rw[eV xs 0 af,HD.o,HU.o]);simp only[Nat.add_zero]at hcell;have RZ:(((0:Nat):Int)==3)=false:=ak;have D9:u+d*1<1048576:=(by simp at hu;omega);(have Vz:bits .or .u64 (u:Int) (d:Int)=((u+d:Nat):Int):=by have:=Gh u d 0 (by simpa using hu) af af;simpa using this);go_wp2;go_round;exact⟨0+1,u+d*1,by omega,int_eq af,rfl,by(have:=D9;simp;omega),fun h=>by(first|omega|exact D9),HN.o⟩;simp[intOf];omega)
  (·have HN:=aa (show val (xs.take (1+1))=u+d*1048576 by rw[eV xs 1 af,HD.o,HU.o]);have RZ:(((1:Nat):Int)==3)=false:=ak;have D9:u+d*1048576<1099511627776:=(by simp at hu;omega);(have Vz:bits .or .u64 (u:Int) ((d:Int)*1048576)=((u+d*1048576:Nat):Int):=by have:=Gh u d 20 (by simpa using hu) af af;simpa using this);go_wp2;go_round;exact⟨1+1,u+d*1048576,by omega,int_eq af,rfl,by(have:=D9;simp;omega),fun h=>by(first|omega|exact D9),HN.o⟩;simp[intOf];omega)
  (·have HN:=aa (show val (xs.take (2+1))=u+d*1099511627776 by rw[eV xs 2 af,HD.o,HU.o]);have RZ:(((2:Nat):Int)==3)=false:=ak;have D9:u+d*1099511627776<1152921504606846976:=(by simp at hu;omega);(have Vz:bits .or .u64 (u:Int) ((d:Int)*1099511627776)=((u+d*1099511627776:Nat):Int):=by have:=Gh u d 40 (by simpa using hu) af af;simpa using this);go_wp2;go_round;exact⟨2+1,u+d*1099511627776,by omega,int_eq af,rfl,by(have:=D9;simp;omega),fun h=>by(first|omega|exact D9),HN.o⟩;simp[intOf];omega);have HN:=aa (show val (xs.take (3+1))=u+d*1152921504606846976 by rw[eV xs 3 af,HD.o,HU.o]);have hd8:decide ((8:Int)<(d:Int))=false:=au;have D9:u+d*1152921504606846976<10376293541461622784:=(by simp at hu;omega);(have Vz:bits .or .u64 (u:Int) ((d:Int)*1152921504606846976)=((u+d*1152921504606846976:Nat):Int):=by have:=Gh u d 60 (by simpa using hu) af af;simpa using this);go_wp2;go_round;exact⟨3+1,u+d*1152921504606846976,by omega,int_eq af,rfl,by(have:=D9;simp;omega),fun h=>by(first|omega|exact D9),HN.o⟩;simp[intOf];omega
 (obtain rfl:i=n:=by omega);have hxu:xs.take i=xs:=aax (by have:=HL.o;omega);have HV:=aa (show val xs=u by have:=HU.o;rwa [hxu]at this);clear hxu;have D9:u<18446744073709551616:=by
  rcases(show i=0∨i=1∨i=2∨i=3∨i=4 by omega)with h|h|h|h|h
  (·subst h;simp at hu;omega)
  (·subst h;simp at hu;omega)
  (·subst h;simp at hu;omega)
  (·subst h;simp at hu;omega);have:=hu4 h;omega
 clear hu hu4;by_cases h63:u<9223372036854775808
 ·have HE:=aa (show(true&&((u:Int)==1))=(val xs==1) by
   rw[HV.o,Bool.true_and,Bool.eq_iff_iff];simp;omega)
  have hls:decide ((u:Int)<9223372036854775808)=true:=au;have hcv:=SA u h63;have hcw:IntKind.i64.wrap (u:Int)=(u:Int):=fQ af;clear h63 D9;go_upto_region 13 with(fail);generalize (9223372036854775808:Int)=K at hls ⊢;go_wp2;go_ret2;exact⟨u,true,rfl,HE.o,HB.o⟩
 have HE:=aa (show(val xs==1)=false by
  rw[HV.o,beq_eq_false_iff_ne];omega)
 have hls:decide ((u:Int)<9223372036854775808)=false:=au;clear h63 D9;go_upto_region 13 with(fail);generalize (9223372036854775808:Int)=K at hls ⊢;go_wp2;go_ret2;exact⟨0,false,rfl,by rw[HE.o];rfl,HB.o⟩
section
theorem SE {M n G:Nat} {s:Int} {A:Option Addr} (c:Nat) (w:World) (h:dA M w s A n (pq 1 G)) (h0:G≠0) (hM:M≤1000000):Calls prog 287 #[.agg #[bU s,bW A n c]] w (N0 (G==1) w):=by
 have hs:s=1:=(by rw[← h.1];unfold pq;rw[if_neg h0]);subst hs;have hi:=fun W (h:dA M W 1 A n (pq 1 G))=>Wy c W h (mA (.inl rfl)) hM;rw[vQ]at hi;have HI:=aa hi;have H:=aa h;clear hi h h0;go_enter func287,ntmps287;go_wp2_with fail;refine(HI.o _ (H.o.alloc _)).mono ?_;rintro e w1 ⟨z,ok,rfl,hok,hb1⟩;have fO:Below w w w1:=((aaf _ w).alloc aac _).trans (hb1.mono ai);have HO:=aa hok;clear hb1 hok;cases ok with
 |true=>
  go_wp2;go_ret;exact⟨cU (by have:=HO.o;simpa using this),fO⟩
 |false=>
  go_wp2;go_ret;exact⟨cU (by have:=HO.o;simpa using this),fO⟩
def dQ (M:Nat) (w:World) (s:Int) (A:Option Addr) (n:Nat) (t:Int) (B:Option Addr) (m:Nat) (f:eH):Prop:=dA M w s A n f.p∧dA M w t B m f.q
section
variable {M n m:Nat} {w w':World} {s t:Int} {A B:Option Addr} {f:eH}
theorem dQ.bZ (h:dQ M w s A n t B m f) (hb:Below w w w'):dQ M w' s A n t B m f:=⟨h.1.bZ hb,h.2.bZ hb⟩
theorem dQ.alloc (h:dQ M w s A n t B m f) (o:Obj):dQ M (w.alloc o) s A n t B m f:=⟨h.1.alloc o,h.2.alloc o⟩
theorem dQ.drew (h:dQ M w s A n t B m f):dQ M w.drew s A n t B m f:=h
theorem dQ.drewN (h:dQ M w s A n t B m f) (k:Nat):dQ M (w.drewN k) s A n t B m f:=h
end
theorem qX {M n m:Nat} {s t:Int} {A B:Option Addr} {f:eH} (c d:Nat) (w:World) (h:dQ M w s A n t B m f) (hM:M+M≤400000):Calls prog 251 #[.agg #[bU s,bW A n c,bU t,bW B m d]] w (N0 (dM f) w):=by
 have hp:=fun W (h:dA M W s A n f.p)=>jL c h af;have hq:=fun W (h:dA M W t B m f.q)=>jL d h af;have H:=aa h;have ht:=h.2.1;cases D_:dD f.p with
 |false=>
  have HN:=aa (show dM f=false by simp[dM,D_]);rw[D_]at hp;have HP:=aa hp;clear hp hq D_ h ht;go_enter func251,ntmps251;go_wp2_with fail;refine(HP.o _ (H.o.1.alloc _)).mono ?_;rintro e w1 ⟨rfl,hb1⟩;have fO:Below w w w1:=((aaf _ w).alloc aac _).trans (hb1.mono ai);clear hb1;go_wp2;go_ret;exact⟨cU HN.o.symm,fO⟩
 |true=>
  cases N_:dD f.q with
  |false=>
   have HN:=aa (show dM f=false by simp[dM,N_]);rw[D_]at hp;rw[N_]at hq;have HP:=aa hp;have HQ:=aa hq;clear hp hq D_ N_ h ht;go_enter func251,ntmps251;go_wp2_with fail;refine(HP.o _ (H.o.1.alloc _)).mono ?_;rintro e w1 ⟨rfl,hb1⟩;have fO:Below w w w1:=((aaf _ w).alloc aac _).trans (hb1.mono ai);have e2:b_ w1 w 2 (bU t):=(hb1.cell (p:=bY w 2) ai).trans ai;have e3:b_ w1 w 3 (bW B m d):=(hb1.cell (p:=bY w 3) ai).trans ai;have HB:=aa fO;clear hb1 fO;go_wp2_with fail;refine(HQ.o _ (H.o.2.bZ HB.o)).mono ?_;rintro e w2 ⟨rfl,hb2⟩;have fO:Below w w w2:=HB.o.trans (hb2.mono HB.o.size);clear hb2;go_wp2;go_ret;exact⟨cU HN.o.symm,fO⟩
  |true=>
   rw[D_]at hp;rw[N_]at hq;have HP:=aa hp;have HQ:=aa hq;have HG:=aa (fun W (k:dQ M W s A n t B m f)=>N8 c d W k.1 k.2 D_ N_ hM);by_cases ht1:t=1
   ·have h0:Nat.gcd (dR f.p) (dR f.q)≠0:=by
     intro e;have:=Nat.eq_zero_of_gcd_eq_zero_right e;have:=(kW N_).1 this;omega
    have HN:=aa (show dM f=(Nat.gcd (dR f.p) (dR f.q)==1) by simp[dM,D_,N_,ht,ht1]);have hne:(t != 1)=false:=(by simpa using ht1);generalize Nat.gcd (dR f.p) (dR f.q)=G at*;clear hp hq D_ N_ h ht ht1;go_enter func251,ntmps251;go_wp2_with fail;refine(HP.o _ (H.o.1.alloc _)).mono ?_;rintro e w1 ⟨rfl,hb1⟩;have fO:Below w w w1:=((aaf _ w).alloc aac _).trans (hb1.mono ai);(have hz1:w.heap.size<w1:=by have:=hb1.size;simp at this;omega);have e0:b_ w1 w 0 (bU s):=(hb1.cell (p:=bY w 0) ai).trans ai;have e1:b_ w1 w 1 (bW A n c):=(hb1.cell (p:=bY w 1) ai).trans ai;have e2:b_ w1 w 2 (bU t):=(hb1.cell (p:=bY w 2) ai).trans ai;have e3:b_ w1 w 3 (bW B m d):=(hb1.cell (p:=bY w 3) ai).trans ai;have HB:=aa fO;clear hb1 fO;go_wp2_with fail;refine(HQ.o _ (H.o.2.bZ HB.o)).mono ?_;rintro e w2 ⟨rfl,hb2⟩;have k0:=(hb2.cell (p:=bY w 0) hz1).trans e0;have k1:=(hb2.cell (p:=bY w 1) hz1).trans e1;have k2:=(hb2.cell (p:=bY w 2) hz1).trans e2;have k3:=(hb2.cell (p:=bY w 3) hz1).trans e3;have dG:=aa (HB.o.trans (hb2.mono HB.o.size));clear hb2 e0 e1 e2 e3;go_wp2_with fail;refine(HG.o _ (H.o.bZ dG.o)).mono ?_;rintro e w3 ⟨s3,A3,n3,c3,rfl,Cs,hf3,hb3⟩;have eF:=aa (dG.o.trans (hb3.mono dG.o.size));have zR:=aa Cs;clear hb3 hf3 Cs k0 k1 k2 k3;go_wp2_with fail;refine(SE c3 _ (zR.o.alloc _) h0 af).mono ?_;rintro e w4 ⟨rfl,hb4⟩;have fO:Below w w w4:=(eF.o.alloc eF.o.size _).trans (hb4.mono (by have:=eF.o.size;simp<;>omega));clear hb4;go_wp2;go_ret;exact⟨cU HN.o.symm,fO⟩
   have HN:=aa (show dM f=false by simp[dM,ht,ht1]);have hne:(t != 1)=true:=(by simpa using ht1);clear hp hq D_ N_ h ht ht1;go_enter func251,ntmps251;go_wp2_with fail;refine(HP.o _ (H.o.1.alloc _)).mono ?_;rintro e w1 ⟨rfl,hb1⟩;have fO:Below w w w1:=((aaf _ w).alloc aac _).trans (hb1.mono ai);(have hz1:w.heap.size<w1:=by have:=hb1.size;simp at this;omega);have e2:b_ w1 w 2 (bU t):=(hb1.cell (p:=bY w 2) ai).trans ai;have e3:b_ w1 w 3 (bW B m d):=(hb1.cell (p:=bY w 3) ai).trans ai;have HB:=aa fO;clear hb1 fO;go_wp2_with fail;refine(HQ.o _ (H.o.2.bZ HB.o)).mono ?_;rintro e w2 ⟨rfl,hb2⟩;have k2:=(hb2.cell (p:=bY w 2) hz1).trans e2;have fO:Below w w w2:=HB.o.trans (hb2.mono HB.o.size);clear hb2 e2 e3;go_wp2;go_ret;exact⟨cU HN.o.symm,fO⟩
end
theorem qY {M M' n n':Nat} {s s':Int} {A A':Option Addr} {a b:iN} (c c':Nat) (w:World) (h:dA M w s A n a) (h':dA M' w s' A' n' b) (vF:dD a=true) (hrb:dD b=true) (hM:M+M'≤1000000):Calls prog 252 #[.agg #[bU s,bW A n c],.agg #[bU s',bW A' n' c']] w (Su (M+M') (rR a b) w):=by
 have HM:=aa (fun W (k:dA M W s A n a) (k':dA M' W s' A' n' b)=>Sv c c' W k k' vF hrb hM);have H:=aa h;have H':=aa h';clear h h' vF hrb;go_enter func252,ntmps252;go_wp2_with fail;refine(HM.o _ (((H.o.alloc _).alloc _).alloc _) (((H'.o.alloc _).alloc _).alloc _)).mono ?_;rintro e w1 ⟨s3,A3,n3,c3,rfl,Cs,hf3,hb1⟩;have fO:Below w w w1:=((((aaf _ w).alloc aac _).alloc aj _).alloc aj _).trans (hb1.mono aj);(have hz1:w.heap.size+1+1<w1:=by have:=hb1.size;simp at this;omega);have e20:b_ w1 (w+1+1) 0 (bU 0):=(hb1.cell (p:=bY (w+1+1) 0) aj).trans ax;have e20f:w1.frozen? (bY (w+1+1) 0)=false:=(hb1.frozen (p:=bY (w+1+1) 0) aj).trans ax;have e21:b_ w1 (w+1+1) 1 (bW none 0 0):=(hb1.cell (p:=bY (w+1+1) 1) aj).trans ax;have e21f:w1.frozen? (bY (w+1+1) 1)=false:=(hb1.frozen (p:=bY (w+1+1) 1) aj).trans ax;have HB:=aa fO;have zR:=aa Cs;have hf:dW (w+1+1+1) A3:=hf3.low ai;have Rf:=aa hf;clear hb1 fO Cs hf3 hf;have ew:=(HB.o.setCell (p:=bY (w+1+1) 0) (show w.heap.size≤w.heap.size+1+1 by omega) (bU s3)).setCell (p:=bY (w+1+1) 1) (show w.heap.size≤w.heap.size+1+1 by omega) (bW A3 n3 c3);have dF:=aa (ew.alloc ew.size (.cells #[bU s3,bW A3 n3 c3] 161));clear ew;go_wp2;exact bodyPost_ret (v:= .agg #[bU s3,bW A3 n3 c3]) (by simp[results,results252,go_sem,e20,e21,hz1]) rfl ⟨s3,A3,n3,c3,rfl,((zR.o.cF Rf.o af _).cF Rf.o af _).alloc _,Rf.o.low af,dF.o⟩
end
section
open Go Go.RowKit Go.Proofs
section
theorem Ct (w:World) (cs:List Value) (t:TypeId) (n k:Nat) (hk:cs.length=n*k):Reads (w.alloc (.cells cs.toArray t)) (w+1) k (bY w 0) n cs:=by
 refine⟨hk,fun _=>⟨_,rfl,Nat.lt_succ_self _,fun j u hu=>?_⟩⟩;have e:(w.alloc (.cells cs.toArray t)).cell? (bY w j)=some u:=by
  unfold World.cell?;rw[show(w.alloc (.cells cs.toArray t)).heap[(bY w j:Addr).block]? =_ from heap_alloc_new w _];simpa using hu
 unfold Addr.add;split
 (·(next h0=>subst h0;exact e));simpa using e
section
variable {α:Type} {R:Rel α} {w w' W:World} {S S':Nat→Prop} {v v':Value} {xs ys:List α} {B T:Nat}
theorem dO.ql:dO R T B w S cD []:=⟨[],rfl,⟨by simp,.inl ⟨rfl,rfl⟩⟩,fun cs h=>by simp at h,fun j cs x h=>by simp at h⟩
theorem dO.empty (hB:B≤w.heap.size) (t:Nat) (ht:t=T):dO R T B (w.alloc (.cells #[] t)) S (bW (bY w 0) 0 0) []:=by
 subst ht;exact⟨[],rfl,⟨by simp,.inr ⟨w.heap.size,0,#[],rfl,hB,heap_alloc_new w _,aaB _,aaG _,by simp,by simp⟩⟩,fun cs h=>by simp at h,fun j cs x h=>by simp at h⟩
theorem dO.lt (h:dO R T B w S v xs) (g:Nat) (hg:v.ownBlock=some g):B≤g∧g<w.heap.size:=by
 obtain⟨css,h1,h2,_⟩:=h;exact tQ h2 g hg
theorem dO.bZ (h:dO R T B w S v xs) (hb:Below w w w'):dO R T B w' S v xs:=by
 obtain⟨css,h1,h2,h3,h4⟩:=h;exact⟨css,h1,oB h2 hb,h3,fun j cs x hc hx=>R.keep (h4 j cs x hc hx) (cB.cA hb)⟩
theorem dO.mono (h:dO R T B w S v xs) (hs:∀ b,b<w.heap.size→S b→S' b):dO R T B w S' v xs:=by
 obtain⟨css,h1,h2,h3,h4⟩:=h;exact⟨css,h1,h2,h3,fun j cs x hc hx=>R.mono (h4 j cs x hc hx) fun b hb q=>⟨hs b hb q.1,q.2⟩⟩
theorem dO.slice (h:dO R T B w S v xs):∃ A c,v=bW A xs c∧xs.length≤c∧c≤maxLen:=by
 obtain⟨css,h1,h2,_⟩:=h;exact iK h2
theorem sN {k:Nat}:∀ {css:List (List Value)},(∀ cs∈css,cs.length=k)→css.flatten.length=css.length*k
 |[],_=>by simp
 |a :: l,h=>by
  have ih:=sN (css:=l) (fun cs hcs=>h cs (List.mem_cons_of_mem _ hcs));rw[List.flatten_cons,aao,ih,h a ai,List.length_cons,aaA];omega
theorem mI {k:Nat}:∀ {css:List (List Value)} (_:∀ cs∈css,cs.length=k) (j i:Nat) (cs:List Value) (v:Value),css[j]? =some cs→cs[i]? =some v→css.flatten[j*k+i]? =some v
 |[],_,j,i,cs,v,h,_=>by simp at h
 |a :: l,hk,0,i,cs,v,h,hv=>by
  simp at h;subst h;rw[List.flatten_cons,Nat.zero_mul,Nat.zero_add,List.getElem?_append_left (List.getElem?_eq_some_iff.1 hv).1];exact hv
 |a :: l,hk,j+1,i,cs,v,h,hv=>by
  have ih:=mI (css:=l) (fun cs hcs=>hk cs (List.mem_cons_of_mem _ hcs)) j i cs v aK hv;have ha:=hk a ai;rw[List.flatten_cons,List.getElem?_append_right (by rw[ha,aaA];omega),ha,aaA];rw[show j*k+1*k+i - k=j*k+i by omega];exact ih
theorem dO.sq {A:Option Addr} {n c:Nat} (h:dO R T B w S (bW A n c) xs) (hs:∀ b,b<w.heap.size→B≤b→S b):Sq R w S A xs:=by
 obtain⟨A',c',e,_⟩:=h.slice;injection e with e1 e2 e3;subst e1 e2;obtain⟨css,h1,h2,h3,h4⟩:=h;refine⟨css,h1,fun hn=>?_,fun j cs x hc hx=>R.mono (h4 j cs x hc hx) fun b _ q=>q.1⟩;have hl:0<xs.length:=by
  rw[← h1];cases css with
  |nil=>exact absurd rfl hn
  |cons x l=>simp
 obtain⟨g,cap',hv,hg1,hg2⟩:=h2.form hl;have hA:A=bY g 0:=(by injection hv);subst hA;refine⟨g,0,rfl,hs g hg2 hg1,hg2,fun j x hx i v hv'=>?_⟩;have:=h2.cells (g:=g) rfl (j*R.k+i) v (mI h3 j i x v hx hv');rw[Addr.add_lit]at this;simpa [Nat.add_assoc]using this
theorem dO.more {css:List (List Value)} {news:List α} {Ri:List (List Value)} {nv:List Value} {n:Nat} (h1:css.length=xs.length) (h3:∀ cs∈css,cs.length=R.k) (h4:∀ (j:Nat) cs x,css[j]? =some cs→xs[j]? =some x→R.is W (fun b=>S b∧some b≠v.ownBlock) cs x) (Vx:Ri.length=news.length) (hn:∀ (j:Nat) cs x,Ri[j]? =some cs→news[j]? =some x→R.is W (fun b=>S b∧some b≠v.ownBlock) cs x) (hnv:nv=Ri.flatten) (hnn:n=news.length) (ho:w'.ownsRow B T R.k v' (xs.length+n) (css.flatten++nv)) (hg:W.grownBy w' v.ownBlock) (hat:v'.ownBlock=v.ownBlock∨v'.ownBlock=some W.heap.size):dO R T B w' S v' (xs++news):=by
 subst hnv hnn;have hnk:∀ cs∈Ri,cs.length=R.k:=fun cs hcs=>by
  obtain⟨j,hj,rfl⟩:=List.getElem_of_mem hcs;exact R.len (hn j _ _ (List.getElem?_eq_getElem hj) (List.getElem?_eq_getElem af))
 refine⟨css++Ri,by simp[h1,Vx],by simpa using ho,fun cs hcs=>?_,fun j cs x hc hx=>?_⟩
 ·rcases List.mem_append.1 hcs with h|h
  (·exact h3 cs h);exact hnk cs h
 have hx':R.is W (fun b=>S b∧some b≠v.ownBlock) cs x:=by
  rcases Nat.lt_or_ge j xs.length with h|h
  (·rw[List.getElem?_append_left af]at hc;rw[List.getElem?_append_left h]at hx;exact h4 j cs x hc hx);rw[List.getElem?_append_right af]at hc;rw[List.getElem?_append_right h]at hx;rw[h1]at hc;exact hn _ cs x hc hx
 have h1:R.is W (fun b=>(S b∧some b≠v.ownBlock)∧some b≠v'.ownBlock) cs x:=R.mono hx' fun b hb q=>⟨q,by
  rcases hat with e|e
  (·rw[e];exact q.2);rw[e];intro e2;injection e2 with e2;omega⟩
 exact R.mono (R.keep h1 (cB.fE hg fun b q=>q.1.2)) fun b _ q=>⟨q.1.1,q.2⟩
end
end
end
open Go Go.RowKit Bg Go.Proofs
def Cu (k:Nat):Nat:=if k=0 then 9223372036854775808 else if k=1 then 8796093022208 else if k=2 then 8388608 else if k=3 then 8 else 1
theorem LZ {k u:Nat} (hk:k≤4) (hu:u<Cu k) (h0:0<u):k+1≤4∧u / 1048576<Cu (k+1):=by
 (have:k=0∨k=1∨k=2∨k=3∨k=4:=by omega);rcases this with rfl|rfl|rfl|rfl|rfl<;>simp[Cu]at hu ⊢ <;>omega
theorem SG {k u:Nat} (hu:u<Cu k):u<9223372036854775808:=by
 unfold Cu at hu;split at hu
 (·exact hu);split at hu
 (·omega);split at hu
 (·omega);split at hu<;>omega
theorem SH (n:Nat) (h:n<9223372036854775808) (W:World):(convert 3 252 (bU (n:Int))).run prog W= .ok (.int .u64 (n:Int)) W:=by
 have e:IntKind.u64.wrap (n:Int)=(n:Int):=(by rw[IntKind.wrap_u64];omega);simp[convert,run_underlying underlying3,run_underlying underlying252,go_sem,e]
def OfAt (n B:Nat) (w wr:World) (v:Value) (u:Nat):Prop:=
 ∃ xs:List Nat,xs.length≤4∧gI xs∧val xs+1048576 ^ xs.length*u=n∧u<Cu xs.length∧wr.ownsRow B 3 1 v xs.length (xs.map nv)∧Below w w wr∧w.heap.size<B∧B≤wr.heap.size∧
  wr.heap[w.heap.size]? =some (.cells #[bU 0,cD] 161 (0,0))
theorem L1 (u:Nat):bits .and .u64 (u:Int) 1048575=((u % 1048576:Nat):Int):=by
 show IntKind.u64.wrap ((BitVec.ofInt 64 (u:Int)&&& BitVec.ofInt 64 1048575).toNat:Int)=_;have e:(BitVec.ofInt 64 1048575).toNat=2 ^ 20 - 1:=ak;rw[BitVec.toNat_and,e,Nat.and_two_pow_sub_one_eq_mod,toNat_ofInt,IntKind.wrap_u64];omega
theorem SJ (u:Nat) (h:u<9223372036854775808) (W:World):(convert 252 3 (.int .u64 (u:Int))).run prog W= .ok (bU (u:Int)) W:=by
 simp[go_sem];exact fQ af
theorem Gi (n:Nat) (hn:n<9223372036854775808) (w:World):Calls prog 204 #[bU (n:Int)] w (Su 4 (pq 1 n) w):=by
 have hcv:=fun W=>SH n hn W;have hneg:decide ((n:Int)<0)=false:=ai;go_enter func204,ntmps204;go_wp2;go_loopg [4,5] n (fun u v4 v5 wr=>v4= .int .u64 (u:Int)∧Hid (OfAt n (w+1) w wr v5 u));(case atStart=>refine⟨rfl,[],by simp,gI.nil,by simp[val],by simpa [Cu]using hn,⟨by simp,.inl ⟨rfl,rfl⟩⟩,cS _,by omega,by simp,heap_alloc_new w _⟩);obtain⟨rfl,HO⟩:=hrel;obtain⟨xs,hl4,SK,hval,Wz,hown,fO,hwB,hBr,hblk⟩:=HO.o;have hlt:=SG Wz;by_cases h0:gk=0
 ·subst h0;have hxv:val xs=n:=(by simpa using hval);have HXV:=aa hxv;have sD:∃ A c,u5=bW A xs c:=by
   obtain⟨A,c,e,_⟩:=iK hown;exact⟨A,c,e⟩
  obtain⟨A,c,rfl⟩:=sD;have ha:=N3 hown;have HSG:=aa (oJ (n:=xs.length) 4 1 xs A c wr rfl SK ha.1 ha.2.1 hl4 af);have hfr:dW (w+1) A:=ha.2.2;have SL:=aa hfr;have V_:=aa hblk;have sF:=aa fO;clear hval hxv SK hown hblk fO hcv hneg Wz HO ha hfr;go_wp2_with fail;refine HSG.o.mono ?_;rintro e w5 ⟨s5,A5,n5,c5,rfl,nX,Pu,ew⟩;have dF:=aa (sF.o.trans (ew.mono sF.o.size));have pK:=aa (oI Pu SL.o);have x7:=aa nX;have Ic:=aa (show cN w5 w 161 [bU 0,cD]from cN.bZ (t:=161) (cs:=[bU 0,cD]) V_.o ew af);have m4:b_ w5 w 0 (bU 0):=Ic.o.cell 0;have m5:b_ w5 w 1 (bW none 0 0):=Ic.o.cell 1;have m4f:w5.frozen? (bY w 0)=false:=Ic.o.frozen 0;have m5f:w5.frozen? (bY w 1)=false:=Ic.o.frozen 1;clear ew Pu nX;go_wp2;have hf:dW (w+1) A5:=pK.o;(have hA:dA 4 w5 s5 A5 n5 (pq 1 n):=by have:=x7.o;rw[HXV.o]at this;exact this);exact bodyPost_ret (v:= .agg #[bU s5,bW A5 n5 c5]) (by simp[results,results204,go_sem,m4,m5]) rfl ⟨s5,A5,n5,c5,rfl,(hA.cF hf af _).cF hf af _,hf.low af,(dF.o.setCell (p:=bY w 0) aac _).setCell (p:=bY w 1) aac _⟩
 have hst:=LZ hl4 Wz af;have hgt:decide ((0:Int)<(gk:Int))=true:=au;have hand:=L1 gk;have hcd:=fun W=>SJ (gk % 1048576) af W;obtain⟨i0,Bo,hz0,hz1,hz2⟩:=info_parts N2;have HV:=aa hval;have HDX:=aa SK;have HOW:=aa hown;have V_:=aa hblk;have sF:=aa fO;have HOWA:=aa (oB hown ((aaf _ wr).alloc aac (.cells #[bU ((gk:Int) % 1048576)] 3)));have gp:=fun g hg=>(tQ hown g hg).1;have VH:=aa gp;clear hval SK hown hblk fO hcv hneg Wz HO gp;go_wp2_with (at_builtin;refine f_ _ rfl (.tmp 16) (.tmp 20) _ rfl (w+1) 3 i0 _ 1 8 underlying38 Bo hz0 hz1 hz2 rfl af _ xs.length (xs.map nv) rfl HOWA.o (wr+1) (bY wr 0) 1 1 [bU ((gk:Int) % 1048576)] rfl ?c2 ?c6 ?c3 ?c4 ?c5 ?_);(case c2=>simpa using Ct wr [bU ((gk:Int) % 1048576)] 3 1 1 rfl);(case c6=>intro u hu;simp at hu;subst hu;rfl);(case c3=>unfold maxLen;omega);(case c4=>omega);(case c5=>simp;omega);intro v9 w9 pL ya yb;have HO9:=aa (show OfAt n (w+1) w w9 v9 (gk / 1048576)from by
  refine⟨xs++[gk % 1048576],by simpa using hst.1,HDX.o.app (gI.cons af gI.nil),?_,by simpa using hst.2,by simpa [nv]using pL,?_,by omega,?_,?_⟩
  (·rw[mQ];have:=HV.o;simp only[val,aao,List.length_cons,List.length_nil,Nat.zero_add,Nat.pow_succ];have e:=Nat.div_add_mod gk 1048576;rw[← this,Nat.add_assoc,Nat.mul_assoc, ← Nat.mul_add];congr 2;omega)
  (·exact(sF.o.alloc af _).grown ya au (fun g hg=>by have:=VH.o g hg;omega))
  (·have:=ya.size;simp at this;omega);rw[ya.block w au (fun e=>by have:=VH.o _ e.symm;omega),Below.heap_alloc _ _ _ af];exact V_.o)
 clear pL ya yb;go_wp2;go_roundg (gk / 1048576);(case measure=>omega);(case rel=>exact⟨by simp,HO9.o⟩)
theorem iO {W w1:World} (hb:Below W W w1):(∀ b o,b<W.heap.size→w1.cell? (bY b o)=W.cell? (bY b o))∧(∀ b o,b<W.heap.size→w1.frozen? (bY b o)=W.frozen? (bY b o)):=
 ⟨fun b o h=>hb.cell (p:=bY b o) h,fun b o h=>hb.frozen (p:=bY b o) h⟩
theorem Pv {a b:iN} {M M' n n':Nat} {w:World} {s s':Int} {A A':Option Addr} (h:dA M w s A n a) (h':dA M' w s' A' n' b) (vF:dD a=true) (hrb:dD b=true) (hb:s'=1) (c c':Nat) (hM:M≤400000) (hM':M'≤400000):Calls prog 308 #[bW A n c,bW A' n' c'] w (tT (dR a) (dR b) w):=by
 obtain⟨p1,p2,p3,p4,p5,p6⟩:=iG h vF;obtain⟨q1,q2,q3,q4,q5,q6⟩:=iG h' hrb;have hle:=h.le;have hle':=h'.le;have:=N4 (jA a.dg) (jA b.dg) A A' c c' w p2 q2 p3 q3 af af (fun e=>by
  rw[e]at q6;have:=q6.2 rfl;omega)
 rw[p1,q1]at this;exact this
def SM (M M':Nat) (q r:iN) (w:World) (e:Ending) (w':World):Prop:=
 ∃ s A n c t B m d,e= .returned (.tuple #[.agg #[bU s,bW A n c],.agg #[bU t,bW B m d],bU 0])∧dA M w' s A n q∧dA M' w' t B m r∧(dW w A∧dW w B)∧Below w w w'
theorem I_ {M M' n n':Nat} {s s':Int} {A A':Option Addr} {a b:iN} (c c':Nat) (w:World) (h:dA M w s A n a) (h':dA M' w s' A' n' b) (vF:dD a=true) (hrb:dD b=true) (hs:s'=1) (hx:0≤s∨dR a % dR b=0) (hM:M≤400000) (hM':M'≤400000):Calls prog 286 #[.agg #[bU s,bW A n c],.agg #[bU s',bW A' n' c']] w (SM M M' (pq s (dR a / dR b)) (pq s (dR a % dR b)) w):=by
 have hr:=fun W (h:dA M W s A n a)=>jL c h af;have hr':=fun W (h:dA M' W s' A' n' b)=>jL c' h af;rw[vF]at hr;rw[hrb]at hr';have H:=aa h;have H':=aa h';have HR:=aa hr;have Sw:=aa hr';have HD:=aa (fun W (k:dA M W s A n a) (k':dA M' W s' A' n' b)=>Pv k k' vF hrb hs c c' hM hM');(have hsb:-1≤s∧s≤1:=by have:=(iG h vF);exact⟨this.2.2.2.1,this.2.2.2.2.1⟩);have HRA:=aa vF;have HRB:=aa hrb;have HPB:=aa (show 0<dR b from by
  have h9:=(iG h' hrb).2.2.2.2.2;(have:dR b≠0:=fun e=>by have:=h9.2 e;omega);omega)
 clear h h' hr hr' vF hrb;subst hs;go_enter func286,ntmps286;go_wp2_with fail;refine(HR.o _ ((((H.o.alloc _).alloc _).alloc _).alloc _)).mono ?_;rintro e w1 ⟨rfl,hb1⟩;have gT:=aa (show Below w w w1 from(((((aaf _ w).alloc aac _).alloc ai _).alloc au _).alloc au _).trans (hb1.mono au));obtain⟨hc1,jw⟩:=iO hb1;have hz1:=hb1.size;simp only[aaI]at hz1;have z0:w.heap.size<w1:=af;have z1:w.heap.size+1<w1:=af;have z2:w.heap.size+1+1<w1:=af;have z3:w.heap.size+1+1+1<w1:=af;clear hb1 hz1;go_wp2_with fail;refine(Sw.o _ (H'.o.bZ gT.o)).mono ?_;rintro e w2 ⟨rfl,hb2⟩;have dG:=aa (gT.o.trans (hb2.mono gT.o.size));obtain⟨hc2,hf2⟩:=iO hb2;have hz2:=hb2.size;have y0:w.heap.size<w2:=af;have y1:w.heap.size+1<w2:=af;have y2:w.heap.size+1+1<w2:=af;have y3:w.heap.size+1+1+1<w2:=af;clear hb2 hz2;go_wp2_with fail;refine(HD.o _ (H.o.bZ dG.o) (H'.o.bZ dG.o)).mono ?_;rintro e w3 ⟨q,r,rfl,⟨Aq,cq,rfl,VC,haq,hfq⟩,⟨Ar,cr,rfl,hlr,har,hfr⟩,hb3⟩;have eF:=aa (dG.o.trans (hb3.mono dG.o.size));obtain⟨hc3,hf3⟩:=iO hb3;have hz3:=hb3.size;have x0:w.heap.size<w3:=af;have x1:w.heap.size+1<w3:=af;have x2:w.heap.size+1+1<w3:=af;have x3:w.heap.size+1+1+1<w3:=af;have hmul:IntKind.i64.wrap s=s:=fQ af;have HAQ:=aa haq;have HAR:=aa har;have VE:=aa VC;have HLR:=aa hlr;have HFQ:=aa (show dW w2 Aq from hfq);have SL:=aa (show dW w2 Ar from hfr);have DU:=aa (fun W (k:ji W Aq ((gJ (dR a / dR b)).map nv))=>oJ (n:=(gJ (dR a / dR b)).length) M s (gJ (dR a / dR b)) Aq cq W rfl (mR _) k VC (by
  have:=kq (Nat.div_le_self (dR a) (dR b));have e:=(iG H.o HRA.o).1;have e2:=H.o.le;have e3:=kJ (iG H.o HRA.o).2.1;have e4:(gJ (dR a)).length=n:=(congrArg List.length e3).symm.trans e;omega) af)
 have ux:=aa (fun W (k:ji W Ar ((gJ (dR a % dR b)).map nv))=>oJ (n:=(gJ (dR a % dR b)).length) M' s (gJ (dR a % dR b)) Ar cr W rfl (mR _) k hlr (by
  have e0:0<dR b:=HPB.o;have:=kq (Nat.le_of_lt (Nat.mod_lt (dR a) e0));have e:=(iG H'.o HRB.o).1;have e2:=H'.o.le;have e3:=kJ (iG H'.o HRB.o).2.1;have e4:(gJ (dR b)).length=n':=(congrArg List.length e3).symm.trans e;omega) af)
 clear hb3 haq har VC hlr hfq hfr;have s0:b_ w3 w 0 (bU s):=(hc3 _ _ y0).trans ((hc2 _ _ z0).trans ((hc1 _ _ aj).trans ax));have s1:b_ w3 w 1 (bW A n c):=(hc3 _ _ y0).trans ((hc2 _ _ z0).trans ((hc1 _ _ aj).trans ax));have s2:b_ w3 (w+1) 0 (bU 1):=(hc3 _ _ y1).trans ((hc2 _ _ z1).trans ((hc1 _ _ aj).trans ax));have s3:b_ w3 (w+1) 1 (bW A' n' c'):=(hc3 _ _ y1).trans ((hc2 _ _ z1).trans ((hc1 _ _ aj).trans ax));have s4:b_ w3 (w+1+1) 0 (bU 0):=(hc3 _ _ y2).trans ((hc2 _ _ z2).trans ((hc1 _ _ aj).trans ax));have s4f:w3.frozen? (bY (w+1+1) 0)=false:=(hf3 _ _ y2).trans ((hf2 _ _ z2).trans ((jw _ _ aj).trans ax));have s5:b_ w3 (w+1+1) 1 (bW none 0 0):=(hc3 _ _ y2).trans ((hc2 _ _ z2).trans ((hc1 _ _ aj).trans ax));have s5f:w3.frozen? (bY (w+1+1) 1)=false:=(hf3 _ _ y2).trans ((hf2 _ _ z2).trans ((jw _ _ aj).trans ax));have s6:b_ w3 (w+1+1+1) 0 (bU 0):=(hc3 _ _ y3).trans ((hc2 _ _ z3).trans ((hc1 _ _ aj).trans ax));have s6f:w3.frozen? (bY (w+1+1+1) 0)=false:=(hf3 _ _ y3).trans ((hf2 _ _ z3).trans ((jw _ _ aj).trans ax));have s7:b_ w3 (w+1+1+1) 1 (bW none 0 0):=(hc3 _ _ y3).trans ((hc2 _ _ z3).trans ((hc1 _ _ aj).trans ax));have s7f:w3.frozen? (bY (w+1+1+1) 1)=false:=(hf3 _ _ y3).trans ((hf2 _ _ z3).trans ((jw _ _ aj).trans ax));clear hc1 hc2 hc3 jw hf2 hf3;have Oa:(decide (s<0)=false)∨(decide (s<0)=true∧¬0<(gJ (dR a % dR b)).length):=by
  rcases Int.lt_or_le s 0 with h|h
  ·right;refine⟨by simpa using h,?_⟩;rcases hx with hx|hx
   (·omega);rw[hx,gM];simp
  left;simpa using h
 have HC:=aa Oa;clear Oa hx;have hvq:=jY (dR a / dR b);have hvr:=jY (dR a % dR b);have HVQ:=aa hvq;have HVR:=aa hvr;clear hvq hvr;have ne1:¬(w.heap.size=w.heap.size+1+1):=af;have ne2:¬(w.heap.size+1+1=w):=af;have ne3:¬(w.heap.size=w.heap.size+1+1+1):=af;have ne4:¬(w.heap.size+1+1+1=w):=af;rcases HC.o with hneg|⟨hneg,hl0⟩<;>
  (clear HC
   go_wp2_with fail
   go_region_held3 (fun w'=>b_ w' w 0 (bU s)∧b_ w' w 1 (bW A n c)∧b_ w' (w+1) 0 (bU 1)∧b_ w' (w+1) 1 (bW A' n' c')) (go_keep)
    (first
     |(go_at_call 248;(with_reducible refine(DU.o _ HAQ.o.drew).mono ?_);rintro e w4 ⟨i4,A4,n4,c4,rfl,I9,ER,hb4⟩;have LX:=aa I9;have Ww:=aa (oI ER HFQ.o);have gC:=aa (ep hb4);obtain⟨vG,hg4⟩:=iO (ep hb4);have Rj:=aa (ep hb4).size;have q0:w.heap.size<w4:=aaD x0 Rj.o;have q1:w.heap.size+1<w4:=aaD x1 Rj.o;have q2:w.heap.size+1+1<w4:=aaD x2 Rj.o;have q3:w.heap.size+1+1+1<w4:=aaD x3 Rj.o;clear hb4 ER I9)
     |(go_at_call 248;(with_reducible refine(ux.o _ (HAR.o.bZ gC.o)).mono ?_);rintro e w5 ⟨i5,A5,n5,c5,rfl,nX,Pu,ew⟩;have x7:=aa nX;have pK:=aa (oI Pu SL.o);have dF:=aa ew;obtain⟨rS,gp⟩:=iO ew;have Ld:=aa ew.size;have p0:w.heap.size<w5:=aaD q0 Ld.o;have p1:w.heap.size+1<w5:=aaD q1 Ld.o;have p2:w.heap.size+1+1<w5:=aaD q2 Ld.o;have p3:w.heap.size+1+1+1<w5:=aaD q3 Ld.o;clear ew Pu nX))
   go_wp2
   have e1:b_ w5 (w+1+1) 0 (bU 0):=(rS _ _ q2).trans ((vG _ _ x2).trans s4)
   have e2:b_ w5 (w+1+1) 1 (bW none 0 0):=(rS _ _ q2).trans ((vG _ _ x2).trans s5)
   have e3:b_ w5 (w+1+1+1) 0 (bU 0):=(rS _ _ q3).trans ((vG _ _ x3).trans s6)
   have e4:b_ w5 (w+1+1+1) 1 (bW none 0 0):=(rS _ _ q3).trans ((vG _ _ x3).trans s7)
   have Cv:dW w2 A4:=Ww.o
   have Cw:dW w2 A5:=pK.o
   have i1:=((((LX.o.bZ dF.o).cF (i:=0) Cv y2 (bU i4)).cF (i:=1) Cv y2 (bW A4 n4 c4)).cF (i:=0) Cv y3 (bU i5)).cF (i:=1) Cv y3 (bW A5 n5 c5)
   have i2:=(((x7.o.cF (i:=0) Cw y2 (bU i4)).cF (i:=1) Cw y2 (bW A4 n4 c4)).cF (i:=0) Cw y3 (bU i5)).cF (i:=1) Cw y3 (bW A5 n5 c5)
   rw[HVQ.o]at i1
   rw[HVR.o]at i2
   have hb0:Below w w w5:=(eF.o.trans (gC.o.mono eF.o.size)).trans (dF.o.mono (Nat.le_of_lt q0))
   have l9:=(((hb0.setCell (p:=bY (w+1+1) 0) (show w.heap.size≤w.heap.size+1+1 by omega) (bU i4)).setCell (p:=bY (w+1+1) 1) (show w.heap.size≤w.heap.size+1+1 by omega) (bW A4 n4 c4)).setCell (p:=bY (w+1+1+1) 0) (show w.heap.size≤w.heap.size+1+1+1 by omega) (bU i5)).setCell (p:=bY (w+1+1+1) 1) (show w.heap.size≤w.heap.size+1+1+1 by omega) (bW A5 n5 c5)
   exact bodyPost_ret (v:= .tuple #[.agg #[bU i4,bW A4 n4 c4],.agg #[bU i5,bW A5 n5 c5],bU 0]) (by simp[results,results286,go_sem,e1,e2,e3,e4]) rfl ⟨i4,A4,n4,c4,i5,A5,n5,c5,rfl,i1,i2,⟨Cv.low dG.o.size,Cw.low dG.o.size⟩,l9⟩)
theorem vH (w:World) (o:Obj) (b i:Nat) (h:b<w.heap.size):(w.alloc o).cell? (bY b i)=w.cell? (bY b i):=World.cell?_alloc_lt w o (bY b i) h
def newF (p q:iN):eH:=⟨pq p.sign (dR p / Nat.gcd (dR p) (dR q)),pq 1 (dR q / Nat.gcd (dR p) (dR q))⟩
theorem Gj {p q:iN} (hq:0<dR q):0<Nat.gcd (dR p) (dR q):=Nat.gcd_pos_of_pos_right _ hq
theorem kK {s:Int} {n:Nat} (h:n≠0):(pq s n).sign=s:=by unfold pq;rw[if_neg h]
theorem qx {b:iN} (h:dD b=true) (hs:b.sign=1):0<dR b:=by
 have:=kW h;(have:dR b≠0:=fun e=>by have:=this.1 e;omega);omega
theorem uU {p q:iN} (hp:dD p=true) (hq:dD q=true) (hs:q.sign=1):dM (newF p q)=true:=by
 have WA:=qx hq hs;have hg:=Gj (p:=p) WA;have hd:0<dR q / Nat.gcd (dR p) (dR q):=Nat.div_pos (Nat.le_of_dvd WA (Nat.gcd_dvd_right _ _)) hg;unfold dM newF;simp only[Bool.and_eq_true,beq_iff_eq,vQ];refine⟨⟨⟨zD ?_,mA (.inl rfl)⟩,kK af⟩,by rw[Nat.gcd_div (Nat.gcd_dvd_left _ _) (Nat.gcd_dvd_right _ _)];exact Nat.div_self hg⟩;rcases pE hp with h|h|h
 (·exact .inr (.inl h))
 (·refine .inr (.inr ?_);have:=(kW hp).2 h;rw[this];simp);exact .inl h
def Bq (M:Nat) (f:eH) (w:World) (e:Ending) (w':World):Prop:=
 ∃ s A n c t B m d,e= .returned (.tuple #[.agg #[bU s,bW A n c,bU t,bW B m d],bU 0])∧dQ M w' s A n t B m f∧(dW w A∧dW w B)∧Below w w w'
def Ob (M:Nat) (f:eH) (w:World) (e:Ending) (w':World):Prop:=
 ∃ s A n c t B m d,e= .returned (.agg #[bU s,bW A n c,bU t,bW B m d])∧dQ M w' s A n t B m f∧(dW w A∧dW w B)∧Below w w w'
theorem Cx {M n n':Nat} {s s':Int} {A A':Option Addr} {p q:iN} (c c':Nat) (w:World) (h:dA M w s A n p) (h':dA M w s' A' n' q) (hrp:dD p=true) (hrq:dD q=true) (hs:s'=1) (hM:M+M≤400000):Calls prog 250 #[.agg #[bU s,bW A n c],.agg #[bU s',bW A' n' c']] w (Bq M (newF p q) w):=by
 subst hs;have hqs:q.sign=1:=h'.1;have hps:p.sign=s:=h.1;have hr:=fun W (k:dA M W s A n p)=>jL c k af;have hr':=fun W (k:dA M W 1 A' n' q)=>jL c' k af;rw[hrp]at hr;rw[hrq]at hr';have WA:=qx hrq hqs;have hg0:=Gj (p:=p) WA;have H:=aa h;have H':=aa h';have HR:=aa hr;have Sw:=aa hr';have HG:=aa (fun W (k:dA M W s A n p) (k':dA M W 1 A' n' q)=>N8 c c' W k k' hrp hrq hM);have hN:newF p q=⟨pq s (dR p / Nat.gcd (dR p) (dR q)),pq 1 (dR q / Nat.gcd (dR p) (dR q))⟩:=(by unfold newF;rw[hps]);have Cr:dR p % Nat.gcd (dR p) (dR q)=0:=Nat.mod_eq_zero_of_dvd (Nat.gcd_dvd_left _ _);have hm2:dR q % Nat.gcd (dR p) (dR q)=0:=Nat.mod_eq_zero_of_dvd (Nat.gcd_dvd_right _ _);rw[hN];clear hN hqs hps hr hr' h h' WA;generalize Nat.gcd (dR p) (dR q)=G at*;have hGr:dD (pq 1 G)=true:=mA (.inl rfl);have hGv:dR (pq 1 G)=G:=vQ 1 G;have HD1:=aa (fun W sg Ag ng cg (k:dA M W s A n p) (k':dA (M+M) W sg Ag ng (pq 1 G)) (e:sg=1)=>I_ c cg W k k' hrp hGr e (.inr (by rw[hGv];exact Cr)) af af);have HD2:=aa (fun W sg Ag ng cg (k:dA M W 1 A' n' q) (k':dA (M+M) W sg Ag ng (pq 1 G)) (e:sg=1)=>I_ c' cg W k k' hrq hGr e (.inl af) af af);rw[hGv,Cr]at HD1;rw[hGv,hm2]at HD2;have HSG:=aa (show(pq 1 G).sign=1 from kK af);clear Cr hm2 hGr hGv hrp hrq hg0;go_enter func250,ntmps250;go_wp2_with fail;refine(HR.o _ (((H.o.alloc _).alloc _).alloc _)).mono ?_;rintro e w1 ⟨rfl,hb1⟩;have gT:=aa (show Below w w w1 from((((aaf _ w).alloc aac _).alloc ai _).alloc au _).trans (hb1.mono au));obtain⟨hc1,jw⟩:=iO hb1;have SN:=hb1.size;simp only[aaI]at SN;have z0:w.heap.size<w1:=af;have z1:w.heap.size+1<w1:=af;have z2:w.heap.size+1+1<w1:=af;clear hb1 SN;go_wp2_with fail;refine(Sw.o _ (H'.o.bZ gT.o)).mono ?_;rintro e w2 ⟨rfl,hb2⟩;have dG:=aa (gT.o.trans (hb2.mono gT.o.size));obtain⟨hc2,hf2⟩:=iO hb2;have VI:=hb2.size;have y0:w.heap.size<w2:=af;have y1:w.heap.size+1<w2:=af;have y2:w.heap.size+1+1<w2:=af;clear hb2 VI;go_wp2_with fail;refine(HG.o _ (H.o.bZ dG.o) (H'.o.bZ dG.o)).mono ?_;rintro e w3 ⟨sg,Ag,ng,cg,rfl,hAg,hFg,hb3⟩;have eF:=aa (dG.o.trans (hb3.mono dG.o.size));obtain⟨hc3,hf3⟩:=iO hb3;have Pw:=hb3.size;have x0:w.heap.size<w3:=af;have x1:w.heap.size+1<w3:=af;have x2:w.heap.size+1+1<w3:=af;have HAG:=aa hAg;have hsg:sg=1:=hAg.1.symm.trans HSG.o;have HSGE:=aa hsg;clear hb3 Pw hAg hFg hsg;go_wp2_with fail;refine(HD1.o _ _ _ _ _ ((H.o.bZ eF.o).alloc _) (HAG.o.alloc _) HSGE.o).mono ?_;rintro e w4 ⟨sa,Aa,na,ca,sr,Ar,nr,cr,rfl,hAa,_,hFa,hb4⟩;have gC:=aa ((eF.o.alloc eF.o.size _).trans (hb4.mono (by have:=eF.o.size;simp;omega)));obtain⟨vG,ER⟩:=iO hb4;have Ie:=hb4.size;simp only[aaI]at Ie;have v0:w.heap.size<w4:=af;have v1:w.heap.size+1<w4:=af;have v2:w.heap.size+1+1<w4:=af;have v3:w3.heap.size<w4:=af;have HAA:=aa hAa;have Rk:=aa (show dW (w3+1) Aa by simpa using hFa.1);have HG4:=aa (show Below w3 w3 w4 from((aaf _ w3).alloc aac _).trans (hb4.mono ai));clear hb4 Ie hAa hFa;go_wp2_with fail;refine(HD2.o _ _ _ _ _ (((H'.o.bZ gC.o).alloc _).alloc _) (((HAG.o.bZ HG4.o).alloc _).alloc _) HSGE.o).mono ?_;rintro e w5 ⟨sb,Ab,nb,cb,st,At,nt,ct,rfl,hAb,_,hFb,ew⟩;have dF:=aa (((gC.o.alloc gC.o.size _).alloc (by have:=gC.o.size;simp;omega) _).trans (ew.mono (by have:=gC.o.size;simp;omega)));obtain⟨rS,Pu⟩:=iO ew;have wD:=ew.size;simp only[aaI]at wD;have u0:w.heap.size<w5:=af;have u1:w.heap.size+1<w5:=af;have u2:w.heap.size+1+1<w5:=af;have u3:w3.heap.size<w5:=af;have u4:w4.heap.size<w5:=af;have u5:w4.heap.size+1<w5:=af;have HAB:=aa hAb;have HFB:=aa (show dW (w4+1+1) Ab by simpa using hFb.1);have VH:=aa (show Below w4 w4 w5 from(((aaf _ w4).alloc aac _).alloc ai _).trans (ew.mono au));clear ew wD hAb hFb;go_wp2_with fail;have e0:b_ w5 (w+1+1) 0 (bU 0):=(rS _ _ aj).trans ((vH _ _ _ _ aj).trans ((vH _ _ _ _ v2).trans ((vG _ _ aj).trans ((vH _ _ _ _ x2).trans ((hc3 _ _ y2).trans ((hc2 _ _ z2).trans ((hc1 _ _ aj).trans ax)))))));have e1:b_ w5 (w+1+1) 1 (bW none 0 0):=(rS _ _ aj).trans ((vH _ _ _ _ aj).trans ((vH _ _ _ _ v2).trans ((vG _ _ aj).trans ((vH _ _ _ _ x2).trans ((hc3 _ _ y2).trans ((hc2 _ _ z2).trans ((hc1 _ _ aj).trans ax)))))));have e2:b_ w5 (w+1+1) 2 (bU 0):=(rS _ _ aj).trans ((vH _ _ _ _ aj).trans ((vH _ _ _ _ v2).trans ((vG _ _ aj).trans ((vH _ _ _ _ x2).trans ((hc3 _ _ y2).trans ((hc2 _ _ z2).trans ((hc1 _ _ aj).trans ax)))))));have e3:b_ w5 (w+1+1) 3 (bW none 0 0):=(rS _ _ aj).trans ((vH _ _ _ _ aj).trans ((vH _ _ _ _ v2).trans ((vG _ _ aj).trans ((vH _ _ _ _ x2).trans ((hc3 _ _ y2).trans ((hc2 _ _ z2).trans ((hc1 _ _ aj).trans ax)))))));have k1:dA M w5 sa Aa na (pq s (dR p / G)):=HAA.o.bZ VH.o;have k2:dA M w5 sb Ab nb (pq 1 (dR q / G)):=HAB.o;have i1:=(((((k1.cF (i:=0) Rk.o (show w.heap.size+1+1<w3.heap.size+1 by omega) (bU sa)).cF (i:=1) Rk.o (show w.heap.size+1+1<w3.heap.size+1 by omega) (bW Aa na ca)).cF (i:=2) Rk.o (show w.heap.size+1+1<w3.heap.size+1 by omega) (bU sb)).cF (i:=3) Rk.o (show w.heap.size+1+1<w3.heap.size+1 by omega) (bW Ab nb cb)).alloc (.cells #[bU sb,bW Ab nb cb] 161)).alloc (.cells #[bU st,bW At nt ct] 161);have i2:=(((((k2.cF (i:=0) HFB.o (show w.heap.size+1+1<w4.heap.size+1+1 by omega) (bU sa)).cF (i:=1) HFB.o (show w.heap.size+1+1<w4.heap.size+1+1 by omega) (bW Aa na ca)).cF (i:=2) HFB.o (show w.heap.size+1+1<w4.heap.size+1+1 by omega) (bU sb)).cF (i:=3) HFB.o (show w.heap.size+1+1<w4.heap.size+1+1 by omega) (bW Ab nb cb)).alloc (.cells #[bU sb,bW Ab nb cb] 161)).alloc (.cells #[bU st,bW At nt ct] 161);have l9:=(((((dF.o.setCell (p:=bY (w+1+1) 0) (show w.heap.size≤w.heap.size+1+1 by omega) (bU sa)).setCell (p:=bY (w+1+1) 1) (show w.heap.size≤w.heap.size+1+1 by omega) (bW Aa na ca)).setCell (p:=bY (w+1+1) 2) (show w.heap.size≤w.heap.size+1+1 by omega) (bU sb)).setCell (p:=bY (w+1+1) 3) (show w.heap.size≤w.heap.size+1+1 by omega) (bW Ab nb cb)).alloc aD (.cells #[bU sb,bW Ab nb cb] 161)).alloc aD (.cells #[bU st,bW At nt ct] 161);have hx3:=eF.o.size;have hx4:=gC.o.size;clear hc1 hc2 hc3 vG rS jw hf2 hf3 ER Pu;have g0:((((((w5.setCell (bY (w+1+1) 0) (bU sa)).setCell (bY (w+1+1) 1) (bW Aa na ca)).setCell (bY (w+1+1) 2) (bU sb)).setCell (bY (w+1+1) 3) (bW Ab nb cb)).alloc (.cells #[bU sb,bW Ab nb cb] 161)).alloc (.cells #[bU st,bW At nt ct] 161)).cell? (bY (w+1+1) 0)=some (bU sa):=(vH _ _ _ _ aD).trans ((vH _ _ _ _ aD).trans (by simp[go_sem,e0,e1,e2,e3]));have g1:((((((w5.setCell (bY (w+1+1) 0) (bU sa)).setCell (bY (w+1+1) 1) (bW Aa na ca)).setCell (bY (w+1+1) 2) (bU sb)).setCell (bY (w+1+1) 3) (bW Ab nb cb)).alloc (.cells #[bU sb,bW Ab nb cb] 161)).alloc (.cells #[bU st,bW At nt ct] 161)).cell? (bY (w+1+1) 1)=some (bW Aa na ca):=(vH _ _ _ _ aD).trans ((vH _ _ _ _ aD).trans (by simp[go_sem,e0,e1,e2,e3]));have g2:((((((w5.setCell (bY (w+1+1) 0) (bU sa)).setCell (bY (w+1+1) 1) (bW Aa na ca)).setCell (bY (w+1+1) 2) (bU sb)).setCell (bY (w+1+1) 3) (bW Ab nb cb)).alloc (.cells #[bU sb,bW Ab nb cb] 161)).alloc (.cells #[bU st,bW At nt ct] 161)).cell? (bY (w+1+1) 2)=some (bU sb):=(vH _ _ _ _ aD).trans ((vH _ _ _ _ aD).trans (by simp[go_sem,e0,e1,e2,e3]));have g3:((((((w5.setCell (bY (w+1+1) 0) (bU sa)).setCell (bY (w+1+1) 1) (bW Aa na ca)).setCell (bY (w+1+1) 2) (bU sb)).setCell (bY (w+1+1) 3) (bW Ab nb cb)).alloc (.cells #[bU sb,bW Ab nb cb] 161)).alloc (.cells #[bU st,bW At nt ct] 161)).cell? (bY (w+1+1) 3)=some (bW Ab nb cb):=(vH _ _ _ _ aD).trans ((vH _ _ _ _ aD).trans (by simp[go_sem,e0,e1,e2,e3]));exact bodyPost_ret (v:= .tuple #[.agg #[bU sa,bW Aa na ca,bU sb,bW Ab nb cb],bU 0]) (by simp[results,results250,go_sem,g0,g1,g2,g3]) rfl ⟨sa,Aa,na,ca,sb,Ab,nb,cb,rfl,⟨i1,i2⟩,⟨Rk.o.low af,HFB.o.low af⟩,l9⟩
end Go.Proofs.YtfppbjfnllhgcaaGreat
