/- Parts of the proof, packed (BigW to Frac5); each theorem bears its own conditions. -/
import Derived.WalkSpells
import Derived.Deep.RegionHeld3
import Derived.IntWalk
import Derived.Deep.LoopGhost
import Derived.Deep.DeepCutAuto
import Derived.Test.YtfppbjfnllhgcaaGreatPn02
set_option linter.unusedVariables false
set_option linter.unusedSimpArgs false
set_option maxRecDepth 100000
set_option maxHeartbeats 8000000
open Go.Proofs.Tryz
open Go.Lib renaming hid → aa
open Nat renaming le_refl→aaB,lt_of_lt_of_le→aaD,le_trans→aaC,zero_le→aaG,add_mul→aaA,mul_le_mul_right→aaF
open Go.World renaming size_alloc→aaI
open List renaming length_append→aao,getD_eq_getElem?_getD→aam,take_of_length_le→aax,length_map→aap,eq_nil_of_length_eq_zero→aaj,drop_eq_getElem_cons→aah,replicate→aaw
open Go.RowKit.Below renaming refl→aaf
theorem bK {p:Prop} (h:p:=by simp[Value.ownBlock]):p:=h
theorem aj {p:Prop} (h:p:=by simp<;>omega):p:=h
theorem aD {p:Prop} (h:p:=by simp[World.setCell];omega):p:=h
namespace Go.Proofs.YtfppbjfnllhgcaaGreat
section
open Go Go.RowKit Bg
theorem drop_zero {l:List Nat} {n:Nat} (h:∀ d∈l.drop n,d=0) (hn:0<n) (hl:n≤l.length) (h0:l.getD (n - 1) 0=0):∀ d∈l.drop (n - 1),d=0:=by
 intro d hd;rw[aah af]at hd;rcases List.mem_cons.1 hd with e|hd
 (·rw[kJ af]at h0;omega);rw[show n - 1+1=n by omega]at hd;exact h d hd
theorem qi (xs:List Nat) (A:Option Addr) (c:Nat) (w:World) (hd:gH xs) (ha:jl w A (xs.map nv)) (hc:xs.length≤c) (hm:xs.length≤1000000):Calls prog 282 #[bW A xs c] w fun e w'=>e= .returned (bW A (gI (val xs)).length c)∧w=w':=by
 go_enter func282,ntmps282;go_wp2;go_loop [3] (fun t=>∃ n:Nat,n≤xs.length∧t=bU (n:Int)∧Hid (∀ d∈xs.drop n,d=0)) (fun t=>(intOf t).toNat);(case atStart=>exact⟨xs.length,aaB _,rfl,by intro d hd;simp at hd⟩);obtain⟨n,hn,rfl,HZ⟩:=hrel;by_cases h0:n=0
 (·subst h0;have HR:=aa (Nf hd hn HZ.o (fun h=>absurd h af));go_wp2;go_ret;exact⟨Ei (by rw[← HR.o];simp),rfl⟩);obtain⟨b,off,d,rfl,hlt,hcell,Vg,HD⟩:=ha.dg hd (k:=n - 1) af;have hi:((n:Int) - 1).toNat=n - 1:=af;cases hz:((d:Int)==0)with
 |true=>
  have HR:Hid (∀ d∈xs.drop (n - 1),d=0):=by
   refine drop_zero HZ.o af hn ?_;have:=HD.o;simp at hz;omega
  go_wp2;go_round;exact⟨n - 1,by omega,by go_num,HR⟩;simp[intOf];omega
 |false=>
  (have hz':d≠0:=fun e=>by subst e;simp at hz);have HR:=aa (Nf hd hn HZ.o (fun h=>by rw[HD.o];exact hz'));clear hz';go_wp2;go_ret;exact⟨Ei (by rw[← HR.o,List.length_take];omega),rfl⟩
attribute [local go_sem] Hy
theorem wj:(Tryz.prog.info? 3).map (fun i=>(i.zero,i.size,i.bytes))=some (some (bU 0),1,8):=by kernel_rfl
def Ca (a b:List Nat) (B:Nat) (w wr:World) (i:Nat):Prop:=
 ∃ out:List Nat,out.length=a.length+b.length∧gH out∧cN wr B 3 (out.map nv)∧val out=val (a.take i)*val b∧Below B w wr
def IE (a b:List Nat) (B:Nat) (w wr:World) (i k c:Nat):Prop:=
 ∃ out:List Nat,out.length=a.length+b.length∧gH out∧cN wr B 3 (out.map nv)∧val out+c*1048576 ^ (i+k)=val (a.take i)*val b+a.getD i 0*(1048576 ^ i*val (b.take k))∧Below B w wr
theorem IE.step {a b:List Nat} {B:Nat} {w wr:World} {i k c d y o:Nat} {out:List Nat} (hda:gH a) (hdb:gH b) (hi:i<a.length) (hk:k<b.length) (hc:c<1048576) (h1:out.length=a.length+b.length) (h2:gH out) (h3:cN wr B 3 (out.map nv)) (h4:val out+c*1048576 ^ (i+k)=val (a.take i)*val b+a.getD i 0*(1048576 ^ i*val (b.take k))) (h5:Below B w wr) (hd:a.getD i 0=d) (hy:b.getD k 0=y) (ho:out.getD (i+k) 0=o) (n:Nat) (hn:n=o+d*y+c):n / 1048576<1048576∧IE a b B w (wr.setCell (bY B (i+k)) (bU ((n % 1048576:Nat):Int))) i (k+1) (n / 1048576):=by
 subst hd hy ho;have hx:=hda.get i;have hyy:=hdb.get k;have hoo:=h2.get (i+k);have hm:=OB _ _ _ _ hoo hx hyy hc;rw[← hn]at hm;refine⟨hm.2,out.set (i+k) (n % 1048576),by simpa using h1,h2.ez _ af,h3.VI _ _,?_,h5.setCell aac _⟩;have:=Oz out (i+k) (a.getD i 0) (b.getD k 0) c n _ af h4 hn;rw[Rg b _ i k hk];rw[← Nat.add_assoc i k 1];omega
theorem Ca.step {a b:List Nat} {B:Nat} {w wr:World} {i c o:Nat} {out:List Nat} (hda:gH a) (hdb:gH b) (hi:i<a.length) (h1:out.length=a.length+b.length) (h2:gH out) (h3:cN wr B 3 (out.map nv)) (h4:val out+c*1048576 ^ (i+b.length)=val (a.take i)*val b+a.getD i 0*(1048576 ^ i*val (b.take b.length))) (h5:Below B w wr) (ho:out.getD (i+b.length) 0=o):o+c<1048576∧Ca a b B w (wr.setCell (bY B (i+b.length)) (bU ((o+c:Nat):Int))) (i+1):=by
 subst ho;rw[aax aac, ← Rf a b i hi]at h4;have hb:=OD (i:=i+1) hda hdb hi;rw[show i+1+b.length=i+b.length+1 by omega]at hb;have:=VG out (i+b.length) c _ af h4 hb;exact⟨this.1,out.set _ _,by simpa using h1,h2.ez _ this.1,h3.VI _ _,this.2,h5.setCell aac _⟩
theorem F0 (a b:List Nat) (A A':Option Addr) (c c':Nat) (w:World) (hda:gH a) (hdb:gH b) (ha:jl w A (a.map nv)) (hb:jl w A' (b.map nv)) (hl:a.length+b.length≤1000000):Calls prog 312 #[bW A a c,bW A' b c'] w fun e w'=>∃ cc,e= .returned (bW (bY w 0) (gI (val a*val b)).length cc)∧(gI (val a*val b)).length≤cc∧cc≤1000000∧rX w' w cc (val a*val b)∧Below w w w':=by
 have hmk:∀ W:World,(Instr.makeSlice 38 (bU ((a.length:Int)+(b.length:Int))) (bU ((a.length:Int)+(b.length:Int)))).run prog W= .ok (bW (bY W 0) (a.length+b.length) (a.length+b.length)) (W.alloc (.cells ((aaw (a.length+b.length) (bU 0)).toArray) 3)):=fun W=>by
  have:=run_make_row' (P:=prog) 38 3 (bU 0) 8 underlying38 wj rfl .i64 .i64 (a.length+b.length) af af W;rw[tK,Int.natCast_add]at this;exact this
 go_enter func312,ntmps312;go_wp2;go_loopw [20] (fun t wr=>∃ i:Nat,i≤a.length∧t=bU (i:Int)∧Ca a b w w wr i) (fun t _=>a.length - (intOf t).toNat);(case atStart=>refine⟨0,aaG _,rfl,aaw (a.length+b.length) 0,by simp,gH.zeros _,?_,by simp[xP,val],cS _⟩;have:=heap_alloc_new w (.cells ((aaw (a.length+b.length) (bU 0)).toArray) 3);unfold cN;rw[List.map_replicate];exact this);obtain⟨i,hi,rfl,HM⟩:=hrel;by_cases hlt:i<a.length
 ·have HM0:IE a b w w wr i 0 0:=by
   obtain⟨out,h1,h2,h3,h4,h5⟩:=HM;exact⟨out,h1,h2,h3,by simp[val,h4],h5⟩
  (have fL:Below w w wr:=by obtain⟨out,h1,h2,h3,h4,h5⟩:=HM;exact h5);obtain⟨b1,off1,d,rfl,B_,hcell1,Vg,HD⟩:=(ha.bZ fL).dg hda hlt;clear HM;obtain⟨wo,rfl⟩:∃ wo:World,wo=wr:=⟨_,rfl⟩;go_wp2;go_loopw [8,27] (fun t u wq=>∃ k c:Nat,k≤b.length∧c<1048576∧t=bU (c:Int)∧u=bU (k:Int)∧IE a b w w wq i k c) (fun _ u _=>b.length - (intOf u).toNat);(case atStart=>exact⟨0,0,aaG _,by omega,rfl,rfl,HM0⟩);obtain⟨k,cc,hk,hcc,rfl,rfl,HM⟩:=hrel;clear HM0 hmk;by_cases hkt:k<b.length
  ·obtain⟨out,h1,h2,h3,h4,h5⟩:=HM;obtain⟨b2,off2,y,rfl,hlt2,Lu,XZ,HY⟩:=(hb.bZ h5).dg hdb hkt;have hik:i+k<out.length:=af;have hik2:i+k<a.length+b.length:=af;obtain⟨o,RT,V4,HO⟩:=h3.dg h2 hik;have hfz:=h3.frozen (i+k);have hp1:(d:Int)*(y:Int)≤1099509530625:=by
    have:d*y≤1048575*1048575:=Nat.mul_le_mul af af;have e:(d:Int)*(y:Int)=((d*y:Nat):Int):=ai;omega
   have KA:0≤(d:Int)*(y:Int):=Int.mul_nonneg af af;have H4:=aa h4;have H1:=aa h1;clear h4 h1;go_wp2;go_roundw;have hs:=IE.step hda hdb hlt hkt hcc H1.o h2 h3 H4.o h5 HD.o HY.o HO.o (o+d*y+cc) rfl;exact⟨k+1,(o+d*y+cc) / 1048576,by omega,hs.1,by rw[vdiv],by go_num,by rw[vmod];exact hs.2⟩;simp[intOf];omega
  (obtain rfl:k=b.length:=by omega);obtain⟨out,h1,h2,h3,h4,h5⟩:=HM;have hik:i+b.length<out.length:=af;have hik2:i+b.length<a.length+b.length:=af;obtain⟨o,RT,V4,HO⟩:=h3.dg h2 hik;have hfz:=h3.frozen (i+b.length);have hsum:o+cc<1048576∧Ca a b w w (wr.setCell (bY w (i+b.length)) (bU ((o+cc:Nat):Int))) (i+1):=Ca.step hda hdb hlt h1 h2 h3 h4 h5 HO.o;have si:=hsum.1;have HS:=aa hsum.2;clear h1 h4 hsum;go_wp2;go_roundw;exact⟨i+1,by omega,by go_num,by rw[← Int.natCast_add];exact HS.o⟩;simp[intOf];omega
 (obtain rfl:i=a.length:=by omega);obtain⟨out,h1,h2,h3,h4,h5⟩:=HM;rw[aax aac]at h4;have H4:=aa h4;have h1':out.length=a.length+b.length:=h1;have H1:=aa h1;clear h4 h1;have ht:=qi out (bY w 0) (a.length+b.length) wr h2 h3.arr af af;rw[h1',H4.o]at ht;have HT:=aa ht;clear ht h1';go_wp2_with (go_at_call 282;refine HT.o.mono ?_;rintro e w' ⟨rfl,rfl⟩);go_ret;have hle:=tJ h2;rw[H4.o,H1.o]at hle;refine⟨a.length+b.length,rfl,hle,hl,?_,h5⟩;have:=rX.of h2 h3;rw[H1.o,H4.o]at this;exact this
def AZ (a:List Nat) (d B:Nat) (w wr:World) (i r:Nat):Prop:=
 ∃ out:List Nat,out.length=a.length∧gH out∧cN wr B 3 (out.map nv)∧val (out.drop i)*d+r=val (a.drop i)∧Below B w wr
theorem AZ.step {a out:List Nat} {d B:Nat} {w wr:World} {i r x:Nat} (hda:gH a) (hd:d<1048577) (hi:i<a.length) (hr:r<d) (h1:out.length=a.length) (h2:gH out) (h3:cN wr B 3 (out.map nv)) (h4:val (out.drop (i+1))*d+r=val (a.drop (i+1))) (h5:Below B w wr) (hx:a.getD i 0=x):(r*1048576+x) / d<1048576∧AZ a d B w (wr.setCell (bY B i) (bU (((r*1048576+x) / d:Nat):Int))) i ((r*1048576+x) % d):=by
 subst hx;have hs:=Ht r d (a.getD i 0) hr hd (hda.get i);exact⟨hs.1,out.set i _,by simpa using h1,h2.ez _ hs.1,h3.VI _ _,KN a out i d r hi h1 hr h4,h5.setCell aac _⟩
theorem Ev (a:List Nat) (d:Nat) (A:Option Addr) (c:Nat) (w:World) (hda:gH a) (Y9:0<d) (hd:d<1048577) (ha:jl w A (a.map nv)) (hl:a.length≤1000000):Calls prog 319 #[bW A a c,bU (d:Int)] w fun e w'=>∃ cc,e= .returned (.tuple #[bW (bY w 0) (gI (val a / d)).length cc,bU ((val a % d:Nat):Int)])∧(gI (val a / d)).length≤cc∧cc≤1000000∧rX w' w cc (val a / d)∧Below w w w':=by
 have hmk:∀ W:World,(Instr.makeSlice 38 (bU ((a.length:Int))) (bU (a.length:Int))).run prog W= .ok (bW (bY W 0) a a) (W.alloc (.cells ((aaw a.length (bU 0)).toArray) 3)):=fun W=>by
  have:=run_make_row' (P:=prog) 38 3 (bU 0) 8 underlying38 wj rfl .i64 .i64 a.length af af W;rw[tK]at this;exact this
 go_enter func319,ntmps319;go_wp2;go_loopw [7,8] (fun t u wr=>∃ k r:Nat,k≤a.length∧r<d∧t=bU (r:Int)∧u=bU ((k:Int) - 1)∧AZ a d w w wr k r) (fun _ u _=>(intOf u+1).toNat);(case atStart=>refine⟨a.length,0,aaB _,Y9,rfl,rfl,aaw a.length 0,by simp,gH.zeros _,?_,by simp[val],cS _⟩;have:=heap_alloc_new w (.cells ((aaw a.length (bU 0)).toArray) 3);unfold cN;rw[List.map_replicate];exact this);obtain⟨k,r,hk,hr,rfl,rfl,out,h1,h2,h3,h4,h5⟩:=hrel;clear hmk;by_cases h0:k=0
 (·subst h0;have ht:=qi out (bY w 0) a.length wr h2 h3.arr af af;simp only[List.drop_zero]at h4;have he:=Eg (val a) (val out) d r hr h4;rw[h1,he.1]at ht;have HT:=aa ht;have HE:=aa he;have H1:=aa h1;clear ht he h4 h1;have hneg:decide ((0:Int)≤((0:Nat):Int) - 1)=false:=ak;go_wp2_with (go_at_call 282;refine HT.o.mono ?_;rintro e w' ⟨rfl,rfl⟩);go_ret2;have hle:=tJ h2;rw[HE.o.1,H1.o]at hle;refine⟨a.length,VJ rfl (int_eq (by rw[← HE.o.2])),hle,hl,?_,h5⟩;have:=rX.of h2 h3;rw[H1.o,HE.o.1]at this;exact this);obtain⟨i,rfl⟩:∃ i,k=i+1:=⟨k - 1,by omega⟩;obtain⟨b1,off1,x,rfl,B_,hcell1,hxl,HX⟩:=(ha.bZ h5).dg hda (k:=i) af;have hik:i<out.length:=af;obtain⟨o,RT,V4,HO⟩:=h3.dg h2 hik;have hfz:=h3.frozen i;have HS:=aa (AZ.step hda hd af hr h1 h2 h3 h4 h5 HX.o);have Vh:=Hz r x af hxl;have H1:=aa h1;have H4:=aa h4;clear h1 h4;go_wp2;go_roundw;exact⟨i,(r*1048576+x) % d,by omega,Nat.mod_lt _ Y9,by rw[smod],rfl,by rw[sdiv];exact HS.o.2⟩;simp[intOf]
attribute [local go_sem] Hy
def RV (pre post:List Value) (u v:List Nat) (gs g:Nat) (w wr:World) (i b:Nat):Prop:=
 ∃ u1:List Nat,u1.length=u.length∧gH u1∧KW wr g pre u1 post∧val u1+gs*val (v.take i)=val u+b*1048576 ^ i∧w.grownBy wr (some g)
def RX (pre post:List Value) (u1 v:List Nat) (g:Nat) (w wr:World) (i c:Nat):Prop:=
 ∃ u2:List Nat,u2.length=u1.length∧gH u2∧KW wr g pre u2 post∧val u2+c*1048576 ^ i=val u1+val (v.take i)∧w.grownBy wr (some g)
theorem RV.step {pre post:List Value} {u v u1:List Nat} {gs g:Nat} {w wr:World} {i b x y:Nat} (hv:gH v) (hg:gs<1048576) (hi:i<u.length) (hb:b<1048576) (h1:u1.length=u.length) (h2:gH u1) (h3:KW wr g pre u1 post) (h4:val u1+gs*val (v.take i)=val u+b*1048576 ^ i) (h5:w.grownBy wr (some g)) (hx:u1.getD i 0=x) (hy:v.getD i 0=y) (n:Int) (hn:n=(x:Int) - b - (gs:Int)*(y:Int)):∃ b':Nat,b'<1048576∧-(n / 1048576)=(b':Int)∧RV pre post u v gs g w (wr.setCell (bY g (pre.length+i)) (bU (n % 1048576))) (i+1) b':=by
 subst hx hy;have XZ:=hv.get i;have hs:=Hu u1 i gs (v.getD i 0) b _ af h2 hb hg XZ _ h4 n (by rw[hn];simp);obtain⟨p1,p2,p3,p4,p5⟩:=hs;refine⟨(-(n / 1048576)).toNat,p3,by omega,u1.set i (n % 1048576).toNat,by simpa using h1,h2.ez _ p4,?_,?_,fF h5 _ _⟩
 (·have:=h3.ez (i:=i) af (n % 1048576).toNat;rw[show(((n % 1048576).toNat:Nat):Int)=n % 1048576 by omega]at this;exact this);rw[← p5];congr 1;rcases Nat.lt_or_ge i v.length with hlt|hge
 (·rw[eN v i hlt,Nat.mul_add]);rw[aax (show v.length≤i+1 by omega),aax hge];simp[hge]
theorem RX.step {pre post:List Value} {u1 v u2:List Nat} {g:Nat} {w wr:World} {i c x y:Nat} (hv:gH v) (hi:i<u1.length) (hc:c≤1) (h1:u2.length=u1.length) (h2:gH u2) (h3:KW wr g pre u2 post) (h4:val u2+c*1048576 ^ i=val u1+val (v.take i)) (h5:w.grownBy wr (some g)) (hx:u2.getD i 0=x) (hy:v.getD i 0=y) (n:Nat) (hn:n=c+x+y):n / 1048576≤1∧RX pre post u1 v g w (wr.setCell (bY g (pre.length+i)) (bU ((n % 1048576:Nat):Int))) (i+1) (n / 1048576):=by
 subst hx hy;have hs:=KP u2 i (v.getD i 0) c _ af h2 hc (hv.get i) h4 n hn;refine⟨hs.1,u2.set i (n % 1048576),by simpa using h1,h2.ez _ af,h3.ez af _,?_,fF h5 _ _⟩;rw[hs.2,Nat.add_assoc];congr 1;rcases Nat.lt_or_ge i v.length with hlt|hge
 (·rw[eN v i hlt]);rw[aax (show v.length≤i+1 by omega),aax hge];simp[hge]
def uR (pre post:List Value) (u v:List Nat) (gs g:Nat) (w:World) (e:Ending) (w':World):Prop:=
 ∃ u':List Nat,u'.length=u.length∧gH u'∧val u'=val u - (if gs*val v≤val u then gs else gs - 1)*val v∧e= .returned (bU (((if gs*val v≤val u then gs else gs - 1):Nat):Int))∧KW w' g pre u' post∧w.grownBy w' (some g)
theorem Lv (pre post:List Value) (u v:List Nat) (gs g cap:Nat) (A:Option Addr) (c:Nat) (w:World) (hu:gH u) (hv:gH v) (hvu:v.length≤u.length) (hl:u.length≤1000000) (hg:gs<1048576) (hw:KW w g pre u post) (ha:jl w A (v.map nv)) (hne:∀ b o,A=bY b o→b≠g) (hq:gs=0∨(gs - 1)*val v≤val u):Calls prog 320 #[bW (bY g pre.length) u cap,bW A v c,bU (gs:Int)] w (uR pre post u v gs g w):=by
 go_enter func320,ntmps320;go_wp2;go_loopw [7,14] (fun t s wr=>∃ i b:Nat,i≤u.length∧b<1048576∧t=bU (b:Int)∧s=bU (i:Int)∧RV pre post u v gs g w wr i b) (fun _ s _=>u.length - (intOf s).toNat);(case atStart=>exact⟨0,0,aaG _,by omega,rfl,rfl,u,rfl,hu,hw,by simp[val],World.grownBy.refl _ _⟩);obtain⟨i,b,hi,hb,rfl,rfl,u1,h1,h2,h3,h4,h5⟩:=hrel;by_cases hlt:i<u.length
 ·obtain⟨x,hcell,hxl,HX⟩:=h3.dg h2 (i:=i) af;have hfz:=h3.frozen (pre.length+i);by_cases hiv:i<v.length
  ·obtain⟨b2,off2,y,rfl,hlt2,Lu,XZ,HY⟩:=(ha.grown h5 (fun b o e h=>hne b o e (by injection h))).dg hv hiv;have HS:=aa (fun n hn=>RV.step hv hg hlt hb h1 h2 h3 h4 h5 HX.o HY.o n hn);have hp1:(gs:Int)*(y:Int)≤1099509530625:=by
    have:gs*y≤1048575*1048575:=Nat.mul_le_mul af af;have e:(gs:Int)*(y:Int)=((gs*y:Nat):Int):=ai;omega
   have KA:0≤(gs:Int)*(y:Int):=Int.mul_nonneg af af;clear h1 h4;go_wp2;go_roundw;obtain⟨b',hb',e1,hS⟩:=HS.o _ rfl;exact⟨i+1,b',by omega,hb',by rw[e1],by go_num,hS⟩;simp[intOf];omega
  (have hy:v.getD i 0=0:=by rw[aam,List.getElem?_eq_none af];rfl);have HS:=aa (fun n hn=>RV.step hv hg hlt hb h1 h2 h3 h4 h5 HX.o hy n hn);clear h1 h4 hy;go_wp2;go_roundw;obtain⟨b',hb',e1,hS⟩:=HS.o ((x:Int) - b) ai;exact⟨i+1,b',by omega,hb',by rw[e1],by go_num,hS⟩;simp[intOf];omega
 (obtain rfl:i=u.length:=by omega);rw[aax hvu]at h4;cases hb0:((b:Int)==0)with
 |true=>
  have e0:b=0:=(by simpa using hb0);have HL:=aa (KR (v:=v) (g:=gs) (U:=val u) (b:=b) h2 (by rw[h1];exact h4) e0);have H1:=aa h1;clear h4 h1 e0;go_wp2;go_ret;exact⟨u1,H1.o,h2,by rw[if_pos HL.o.1];exact HL.o.2,by rw[if_pos HL.o.1];rfl,h3,h5⟩
 |false=>
  (have hbn:b≠0:=fun e=>by subst e;simp at hb0);have hgs:0<gs:=by
   rcases Nat.eq_zero_or_pos gs with e|e
   (·subst e;exfalso;have hq2:=j4 h2;rw[h1]at hq2;have:=aaF (1048576 ^ u.length) (show 1≤b by omega);omega);exact e
  have HN:=aa hbn;have H4:=aa h4;have H1:=aa h1;clear h4 h1 hbn;obtain⟨wo,rfl⟩:∃ wo:World,wo=wr:=⟨_,rfl⟩;go_wp2;go_loopw [10,49] (fun t s wr=>∃ i c:Nat,i≤u.length∧c≤1∧t=bU (c:Int)∧s=bU (i:Int)∧RX pre post u1 v g w wr i c) (fun _ s _=>u.length - (intOf s).toNat);(case atStart=>exact⟨0,0,aaG _,by omega,rfl,rfl,u1,rfl,h2,h3,by simp[val],h5⟩);obtain⟨i,c1,hi,hc1,rfl,rfl,u2,k1,k2,k3,k4,k5⟩:=hrel;have O2:u2.length=u.length:=k1.trans H1.o;by_cases hlt:i<u.length
  ·obtain⟨x,hcell,hxl,HX⟩:=k3.dg k2 (i:=i) af;have hfz:=k3.frozen (pre.length+i);by_cases hiv:i<v.length
   ·obtain⟨b2,off2,y,rfl,hlt2,Lu,XZ,HY⟩:=(ha.grown k5 (fun b o e h=>hne b o e (by injection h))).dg hv hiv;have HS:=aa (fun n hn=>RX.step hv af hc1 k1 k2 k3 k4 k5 HX.o HY.o n hn);clear k1 k4 O2;go_wp2;go_roundw;case rel=>
     have hS:=HS.o (c1+x+y) rfl;exact⟨i+1,(c1+x+y) / 1048576,by omega,hS.1,int_eq af,by go_num,by
      have:=hS.2;rw[show(((c1+x+y) % 1048576:Nat):Int)=((c1:Int)+x+y) % 1048576 by omega]at this;exact this⟩
    (case measure=>simp[intOf];omega)
   (have hy:v.getD i 0=0:=by rw[aam,List.getElem?_eq_none af];rfl);have HS:=aa (fun n hn=>RX.step hv af hc1 k1 k2 k3 k4 k5 HX.o hy n hn);clear k1 k4 O2 hy;go_wp2;go_roundw;case rel=>
    have hS:=HS.o (c1+x) rfl;exact⟨i+1,(c1+x) / 1048576,by omega,hS.1,int_eq af,by go_num,by
     have:=hS.2;rw[show(((c1+x) % 1048576:Nat):Int)=((c1:Int)+x) % 1048576 by omega]at this;exact this⟩
   (case measure=>simp[intOf];omega)
  (obtain rfl:i=u.length:=by omega);rw[aax hvu]at k4;have HH:=aa (Hv (u:=u1) (u2:=u2) (g:=gs) (U:=val u) (V:=val v) (b:=b) (c:=c1) h2 k2 k1 (by rw[H1.o];exact H4.o) HN.o (by rw[H1.o];exact k4) (by rw[H1.o];exact j4 hu) hq);have HL:=aa O2;clear k1 k4 O2;go_wp2;go_ret;(have hn:¬gs*val v≤val u:=by have:=HH.o.1;omega);exact⟨u2,HL.o,k2,by rw[if_neg hn];exact HH.o.2.2,by rw[if_neg hn];exact AX af,k3,k5⟩
theorem Nz (x y:Int) (w:World):Calls prog 62 #[bU x,bU y] w fun e w'=>e= .returned (bU (YM x y))∧w=w':=by
 unfold YM;rcases Int.lt_trichotomy x y with h|h|h
 (·have h2:¬y<x:=af;rw[if_pos h];go_enter func62,ntmps62;go_wp2;go_ret;exact⟨rfl,rfl⟩)
 (·subst h;rw[if_neg af,if_pos rfl];have h2:¬x<x:=af;go_enter func62,ntmps62;go_wp2;go_ret;exact⟨rfl,rfl⟩);have h2:¬x<y:=af;rw[if_neg h2,if_neg af];go_enter func62,ntmps62;go_wp2;go_ret;exact⟨rfl,rfl⟩
theorem sF (a b:List Nat) (A A':Option Addr) (c c':Nat) (w:World) (hca:Canon a) (hcb:Canon b) (ha:jl w A (a.map nv)) (hb:jl w A' (b.map nv)) (hl:a.length≤1000000) (hl':b.length≤1000000):Calls prog 318 #[bW A a c,bW A' b c'] w fun e w'=>e= .returned (bU (vK (val a) (val b)))∧∃ n,w'=w.drewN n:=by
 by_cases hlen:a.length=b.length
 ·have hbn:((a.length:Int) != (b.length:Int))=false:=aq;have HL:=aa hlen;have hle:a.length≤b.length:=af;have hge:b.length≤a.length:=af;clear hlen;go_enter func318,ntmps318;go_wp2;go_loopw [5] (fun u wr=>∃ k n:Nat,k≤a.length∧u=bU ((k:Int) - 1)∧wr=w.drewN n∧Hid (a.drop k=b.drop k)) (fun u _=>(intOf u+1).toNat);(case atStart=>exact⟨a.length,0,aaB _,rfl,rfl,by show a.drop a.length=b.drop a.length;rw[List.drop_of_length_le aac,List.drop_of_length_le af]⟩);obtain⟨k,n,hk,rfl,rfl,HD⟩:=hrel;by_cases h0:k=0
  (·subst h0;have HE:=aa (show vK (val a) (val b)=0 from FC (by have:=HD.o;simp at this;rw[this]));have hneg:decide ((0:Int)≤((0:Nat):Int) - 1)=false:=ak;go_wp2;go_ret;exact⟨AX HE.o.symm,n,rfl⟩);obtain⟨i,rfl⟩:∃ i,k=i+1:=⟨k - 1,by omega⟩;obtain⟨b1,off1,x,rfl,B_,hcell1,hxl,HX⟩:=ha.dg hca.1 (k:=i) af;obtain⟨b2,off2,y,rfl,hlt2,Lu,XZ,HY⟩:=hb.dg hcb.1 (k:=i) af;have e5:(((i+1:Nat):Int) - 1)=(i:Int):=af;rw[e5];clear e5;have hi1:(i:Int)<(a.length:Int):=af;have hi2:(i:Int)<(b.length:Int):=af;have AY:0≤(i:Int):=af;by_cases hxy:x=y
  ·subst hxy;have HN:=aa (show a.drop i=b.drop i by
    have e1:=HX.o;have e2:=HY.o;have e3:=HD.o;have e4:=HL.o;rw[aah (show i<a.length by omega),aah (show i<b.length by omega),e3, ← kJ (l:=a) af, ← kJ (l:=b) af,e1,e2])
   have hne:((x:Int) != (x:Int))=false:=ai;go_wp2;go_quiet (fail);go_wp2;go_roundw;exact⟨i,n+nq,by omega,rfl,rfl,HN⟩;simp[intOf]
  have hne:((x:Int) != (y:Int))=true:=aq;have hcmp:=fun w=>Nz (x:Int) (y:Int) w;have HE:=aa (show YM (x:Int) (y:Int)=vK (val a) (val b) by
   have e1:=HX.o;have e2:=HY.o;have e3:=HD.o;have e4:=HL.o;unfold YM;rcases Nat.lt_or_ge x y with h|h
   (·rw[if_pos af,Fz (Re hca.1 e4 i af e3 af)]);rw[if_neg af,if_neg af,AW (Re hcb.1 e4.symm i af e3.symm af)])
  have HC:=aa hcmp;clear hcmp;go_wp2;go_quiet (fail);go_wp2;go_quiet ((go_at_call 62;exact Bw (HC.o _)));go_wp2;go_ret;exact⟨AX HE.o,_,by rw[World.drewN_drewN,World.drewN_drewN]⟩
 have hbn:((a.length:Int) != (b.length:Int))=true:=aq;have HE:=aa (show YM (a.length:Int) (b.length:Int)=vK (val a) (val b) by
  unfold YM;rcases Nat.lt_or_ge a.length b.length with h|h
  (·rw[if_pos af,Fz (Rc hca.1 hcb h)]);rw[if_neg af,if_neg af,AW (Rc hcb.1 hca af)])
 clear hlen;have HC:=aa (fun w=>Nz (a.length:Int) (b.length:Int) w);go_enter func318,ntmps318;go_wp2_with (go_at_call 62;refine(HC.o _).mono ?_;rintro e w' ⟨rfl,rfl⟩);go_ret;exact⟨AX HE.o,0,rfl⟩
end
open Go Go.RowKit Bg Go.Proofs
theorem NB:(Tryz.prog.info? 3).map (fun i=>(i.zero,i.size,i.bytes))=some (some (bU 0),1,8):=by kernel_rfl
theorem O3 {w:World} {A:Option Addr} {xs:List Value} (h:jl w A xs):Reads w w 1 A xs.length xs:=by
 refine⟨by simp,fun hn=>?_⟩;obtain⟨b,off,e,hlt,hc⟩:=h (fun e=>by subst e;simp at hn);refine⟨_,e,hlt,fun j u hu=>?_⟩;have:=hc j u hu;unfold Addr.add;split
 (·(next h0=>subst h0;exact this));exact this
theorem NC {w:World} {base:Nat} {A:Option Addr} {e:TypeId} {n c:Nat} {xs:List Value} (h:w.ownsRow base e 1 (bW A n c) n xs):jl w A xs∧n≤c∧∀ b o,A=bY b o→base≤b:=by
 obtain⟨h0,h1⟩:=h;rcases h1 with⟨h1,h2⟩|⟨g,cap,cur,h1,h2,h3,h4,h5,h6,h7⟩
 (·injection h1 with e1 e2 e3;subst e1 e2 e3;have:xs=[]:=aaj af;subst this;exact⟨jl.nil,aaB _,fun b o h=>by cases h⟩);injection h1 with e1 e2 e3;subst e1 e3;refine⟨fun _=>⟨g,0,rfl,(Array.getElem?_eq_some_iff.1 h3).1,fun j v hv=>?_⟩,h4,fun b o h=>by injection h with h;injection h with h;omega⟩;rw[Nat.zero_add,cell_of_row w g j cur e (0,0) h3];rw[← h7,List.getElem?_take]at hv;split at hv
 (·simpa using hv);cases hv
def Ew (xs:List Value) (w:World) (e:Ending) (w':World):Prop:=
 ∃ A' c',e= .returned (bW A' xs c')∧jl w' A' xs∧xs.length≤c'∧(∀ b o,A'=bY b o→w.heap.size≤b)∧Below w w w'
theorem Ex (xs:List Value) (A:Option Addr) (c:Nat) (w:World) (h1:∀ u∈xs,u.oneCell'=true) (ha:jl w A xs) (hl:xs.length≤1000000):Calls prog 306 #[bW A xs c] w (Ew xs w):=by
 have q:∀ (w:World) (a:Option Addr) (n c n' c':Nat),(binOp .eql 38 (bW a n c) (bW none n' c')).run prog w= .ok (.bool a.isNone) w:=fun w a n c n' c'=>Lib.run_eql_slice_nil w _ _ a n c n' c' underlying38;rcases A with _|ad
 ·have hx:xs=[]:=by
   rcases xs with _|⟨x,r⟩
   (·rfl);obtain⟨b,off,e,_⟩:=ha ai;cases e
  subst hx;simp only[List.length_nil];go_enter func306,ntmps306;go_wp2;go_ret;exact⟨none,0,rfl,jl.nil,aaG _,fun b o h=>(by cases h),aaf _ _⟩
 obtain⟨i0,AY,hz0,hz1,hz2⟩:=info_parts NB;have H1:=aa h1;clear h1;go_enter func306,ntmps306;go_wp2_with (at_builtin;refine fW _ rfl (.tmp 5) (.tmp 6) _ rfl w 3 i0 _ 1 8 underlying38 AY hz0 hz1 hz2 rfl af _ 0 [] rfl ?c1 (w+1) (some ad) xs.length c xs rfl ?c2 H1.o ?c3 ?c4 ?c5 ?_);(case c1=>exact⟨by simp,.inr ⟨w.heap.size,0,#[],rfl,aaB _,heap_alloc_new w _,aaB _,by unfold maxLen;omega,by simp,by simp⟩⟩);(case c2=>exact((O3 ha).alloc aac _).more af);(case c3=>unfold maxLen;omega);(case c4=>omega);(case c5=>simp);intro v1 w1 hown hg _;have hb:Below w w w1:=(cS _).grown hg ai bK;clear q;go_wp2;go_ret;obtain⟨A',c',rfl⟩:∃ A' c',v1=bW A' xs c':=by
  rcases hown.2 with⟨h,hn⟩|⟨g,cap,cur,h,_⟩
  (·exact⟨none,0,by rw[h,hn]⟩);exact⟨_,_,h⟩
 have:=NC hown;exact⟨A',c',rfl,this.1,this.2.1,this.2.2,hb⟩
def uS (B:Nat) (w:World) (v:Value) (n:Nat):Prop:=∃ A c,v=bW A (gI n).length c∧(gI n).length≤c∧jl w A ((gI n).map nv)∧∀ b o,A=bY b o→B≤b
theorem uS.bZ {B:Nat} {w w':World} {v:Value} {n:Nat} (h:uS B w v n) (hb:Below w w w'):uS B w' v n:=by
 obtain⟨A,c,h1,h2,h3,h4⟩:=h;exact⟨A,c,h1,h2,h3.bZ hb,h4⟩
def tQ (a b:Nat) (w:World) (e:Ending) (w':World):Prop:=
 ∃ q r,e= .returned (.tuple #[q,r])∧uS w w' q (a / b)∧uS w w' r (a % b)∧Below w w w'
theorem RY (l:List Nat):∀ u∈l.map nv,u.oneCell'=true:=by
 intro u hu;obtain⟨d,_,rfl⟩:=List.mem_map.1 hu;rfl
theorem F2 (a b:List Nat) (A A':Option Addr) (c c':Nat) (w:World) (hca:Canon a) (hcb:Canon b) (ha:jl w A (a.map nv)) (hb:jl w A' (b.map nv)) (hl:a.length≤1000000) (hl':b.length≤1000000) (hlt:val a<val b):Calls prog 308 #[bW A a c,bW A' b c'] w (tQ (val a) (val b) w):=by
 have hcmp:=sF a b A A' c c' w hca hcb ha hb hl hl';rw[Fz hlt]at hcmp;have HC:=aa hcmp;have HQ:=aa (show val a / val b=0 from Nat.div_eq_of_lt hlt);have HR:=aa (show val a % val b=val a from Nat.mod_eq_of_lt hlt);clear hcmp;go_enter func308,ntmps308;go_wp2_with fail;refine HC.o.mono ?_;rintro e w' ⟨rfl,n,rfl⟩;go_wp2_with fail;have HK:=aa (Ex (a.map nv) A c (w.drewN n) (RY a) (ha.drewN n) (by simpa using hl));have wm:Hid (Calls prog 306 #[bW A a c] (w.drewN n) (Ew (a.map nv) (w.drewN n))):=by
  have:=HK.o;rw[aap]at this;exact this
 clear HK;refine wm.o.mono ?_;rintro e w1 ⟨A1,c1,rfl,hA1,hl1,jy,hb1⟩;go_wp2;go_ret2;have e1:gI (val a)=a:=(kD hca).symm;refine⟨_,_,rfl,?_,?_,mg hb1⟩
 (·rw[HQ.o];exact⟨none,0,by rw[gL];rfl,by rw[gL];simp,by rw[gL];exact jl.nil,fun b o h=>by cases h⟩);rw[HR.o];exact⟨A1,c1,by rw[e1];simp,by rw[e1];simpa using hl1,by rw[e1];exact hA1,jy⟩
theorem IG (a:List Nat) (d:Nat) (A A':Option Addr) (c c':Nat) (w:World) (hca:Canon a) (Y9:0<d) (hd:d<1048576) (ha:jl w A (a.map nv)) (hb:jl w A' ([d].map nv)) (hl:a.length≤1000000) (hle:d≤val a):Calls prog 308 #[bW A a c,bW A' 1 c'] w (tQ (val a) d w):=by
 have hv:val [d]=d:=(by simp[val]);have hcb:Canon [d]:=⟨gH.cons hd gH.nil,fun _=>by simp;omega⟩;have hcmp:=sF a [d] A A' c c' w hca hcb ha hb hl ai;rw[hv]at hcmp;obtain⟨b1,off1,y,rfl,B_,hcell1,XZ,HY⟩:=hb.dg hcb.1 (k:=0) ai;(obtain rfl:d=y:=by simpa using HY.o);simp only[Nat.add_zero]at hcell1;have hge:¬vK (val a) d<0:=by
  rcases Nat.lt_or_ge d (val a)with h|h
  (·rw[AW h];omega);rw[FC af];omega
 have HC:=aa hcmp;have HG:=aa hge;clear hcmp hge hv HY;go_enter func308,ntmps308;go_wp2_with fail;refine HC.o.mono ?_;rintro e w' ⟨rfl,n,rfl⟩;have hge:=HG.o;generalize vK (val a) d=z at hge;clear HC HG;have hge2:decide (z<0)=false:=(by simpa using hge);go_wp2_with fail;have HS:=aa (Ev a d A c (w.drewN n) hca.1 Y9 af (ha.drewN n) hl);refine HS.o.mono ?_;rintro e w1 ⟨cc,rfl,hcc,hcm,hown,hb1⟩;clear HS;have Y_:=mg hb1;go_wp2_with fail;have HT:=aa (qi [val a % d] (bY w1 0) 1 (w1.alloc (.cells #[bU ((val a % d:Nat):Int)] 3)) (gH.cons (by have:=Nat.mod_lt (val a) Y9;omega) gH.nil) (cN.arr (t:=3) (heap_alloc_new w1 _)) aac ai);refine HT.o.mono ?_;rintro e w2 ⟨rfl,rfl⟩;go_wp2;go_ret2;have hval:val [val a % d]=val a % d:=(by simp[val]);refine⟨_,_,rfl,?_,?_,Y_.alloc Y_.size _⟩
 (·exact⟨_,cc,rfl,hcc,hown.arr.alloc _,fun b o h=>by injection h with h;injection h with h;subst h;exact aaB _⟩);refine⟨_,1,by rw[hval];rfl,?_,?_,fun b o h=>by injection h with h;injection h with h;subst h;exact Y_.size⟩
 (·have:=tJ (l:=[val a % d]) (gH.cons (by have:=Nat.mod_lt (val a) Y9;omega) gH.nil);rw[hval]at this;exact this);have h2:=(cN.arr (t:=3) (heap_alloc_new w1 (.cells #[bU ((val a % d:Nat):Int)] 3)):jl _ _ ([val a % d].map nv)).oh (gI (val [val a % d])).length;rw[← List.map_take, ← vJ (gH.cons (by have:=Nat.mod_lt (val a) Y9;omega) gH.nil),hval]at h2;exact h2
end Go.Proofs.YtfppbjfnllhgcaaGreat
namespace Bg
structure Pack (X V top t0 v1 v0:Nat):Prop where
 start:X / V≤top / v1
 more:∀ g rs,g*v1+rs=top→rs*1048576+t0<g*v0→X / V<g
 stop:∀ g rs,g*v1+rs=top→g<1048576→(1048576≤rs∨g*v0≤rs*1048576+t0)→(g - 1)*V≤X
 small:X / V<1048576
 pos:0<V
theorem AG.pack {u v:List Nat} {j n t2 t1 t0 v1 v0 top:Nat} (h:AG u v j n) (h2:u.getD (j+v.length) 0=t2) (h1:u.getD (j+v.length - 1) 0=t1) (h0:u.getD (j+v.length - 2) 0=t0) (g1:v.getD (v.length - 1) 0=v1) (g0:v.getD (v.length - 2) 0=v0) (ht:top=t2*1048576+t1):Pack (val (u.drop j)) (val v) top t0 v1 v0:=by
 have hn:=h.hn;subst h2 h1 h0 g1 g0 ht;have e2:j+v.length=j+n+2:=af;have e1:j+v.length - 1=j+n+1:=af;have e0:j+v.length - 2=j+n:=af;have k1:v.length - 1=n+1:=af;have k0:v.length - 2=n:=af;rw[e2,k1,k0,show j+n+2 - 1=j+n+1 by omega,show j+n+2 - 2=j+n by omega];exact⟨h.start,fun g rs a b=>h.more a b,fun g rs a b c=>h.stop a b c,h.quot,h.pos⟩
theorem Pack.dec {X V top t0 v1 v0 g rs:Nat} (h:Pack X V top t0 v1 v0) (hg:g*v1+rs=top) (hq:X / V≤g) (hx:1048576≤g∨rs*1048576+t0<g*v0):0<g∧(g - 1)*v1+(rs+v1)=top∧X / V≤g - 1∧rs+v1≤top:=by
 have hsm:=h.small;have hmo:=h.more g rs hg;clear h;generalize X / V=q at*;have hlt:q<g:=by
  rcases hx with h1|h1
  (·omega);exact hmo h1
 have hpos:0<g:=af;have e:g*v1=(g - 1)*v1+v1:=by
  (conv=>lhs;rw[show g=(g - 1)+1 by omega,aaA,Nat.one_mul])
 refine⟨hpos,by omega,by omega,by omega⟩
theorem Pack.first {X V top t0 v1 v0:Nat} (h:Pack X V top t0 v1 v0) (hv:0<v1):top / v1*v1+top % v1=top∧X / V≤top / v1∧top / v1≤top∧top % v1≤top:=by
 refine⟨?_,h.start,Nat.div_le_self _ _,Nat.mod_le _ _⟩;have:=Nat.div_add_mod top v1;rw[Nat.mul_comm]at this;exact this
end Bg
namespace Go.Proofs.YtfppbjfnllhgcaaGreat
section
open Go Go.RowKit Bg Go.Proofs
theorem rX.row {w:World} {g cc n base:Nat} (h:rX w g cc n) (hc:cc≤maxLen) (hb:base≤g):w.ownsRow base 3 1 (bW (bY g 0) (gI n).length cc) (gI n).length ((gI n).map nv):=by
 obtain⟨k,hk,hB⟩:=h;refine⟨by simp,.inr ⟨g,cc,_,rfl,hb,hB,by omega,hc,by simp;omega,?_⟩⟩;simp
theorem V5 {w:World} {base n:Nat} {v:Value} {xs:List Value} (h:w.ownsRow base 3 1 v n xs) (hn:0<n):∃ g cap rest,v=bW (bY g 0) n cap∧base≤g∧n≤cap∧cN w g 3 (xs++rest):=by
 obtain⟨h0,h1⟩:=h;rcases h1 with⟨h1,h2⟩|⟨g,cap,cur,h1,h2,h3,h4,h5,h6,h7⟩
 (·omega);refine⟨g,cap,cur.toList.drop (n*1),h1,h2,h4,?_⟩;rw[← h7,List.take_append_drop];unfold cN;rw[h3]
theorem cN.udg {w:World} {g:Nat} {u:List Nat} {rest:List Value} (h:cN w g 3 (u.map nv++rest)) (hd:gH u) {i:Nat} (hi:i<u.length):∃ d:Nat,b_ w g i (bU (d:Int))∧d<1048576∧Hid (u.getD i 0=d):=by
 refine⟨u.getD i 0,?_,hd.get i,rfl⟩;rw[h.cell,List.getElem?_append_left aW];simp[nv,hi]
def RZ (v:List Nat) (T m gu gv gq:Nat) (rest:List Value) (w wr:World) (k:Nat):Prop:=
 ∃ u q:List Nat,u.length=m+v.length∧q.length=m∧gH u∧gH q∧cN wr gu 3 (u.map nv++rest)∧cN wr gq 3 (q.map nv)∧jl wr (bY gv 0) (v.map nv)∧
  val u+val v*(1048576 ^ k*val (q.drop k))=T∧val (u.drop k)<val v∧Below w w wr
theorem Cb {v u:List Nat} {gu gv cu cv j n' g N:Nat} {rest:List Value} {wo:World} (sG:AG u v j n') (QU:cN wo gu 3 (u.map nv++rest)) (Vi:jl wo (bY gv 0) (v.map nv)) (hne:gu<gv) (hl:u.length≤400002) (xI:g<1048576) (hx:(g - 1)*val v≤val (u.drop j)):Calls prog 320 #[bW (bY gu j) (v.length+1) (cu - j),bW (bY gv 0) v cv,bU (g:Int)] (wo.drewN N) (uR ((u.take j).map nv) ((u.drop (j+(n'+3))).map nv++rest) ((u.drop j).take (n'+3)) v g gu (wo.drewN N)):=by
 have hn:=sG.hn;have hj:=sG.hj;have hlw:((u.drop j).take (n'+3)).length=v.length+1:=aq;have hlp:((u.take j).map nv).length=j:=aq;have mZ:=Lv ((u.take j).map nv) ((u.drop (j+(n'+3))).map nv++rest) ((u.drop j).take (n'+3)) v g gu (cu - j) (bY gv 0) cv (wo.drewN N)
  ((sG.hu.Nd j).oh _) sG.hv af af xI (by
   show cN (wo.drewN N) gu 3 _;have e:(u.take j).map nv++(((u.drop j).take (n'+3)).map nv++((u.drop (j+(n'+3))).map nv++rest))=u.map nv++rest:=by
    rw[← List.append_assoc, ← List.append_assoc, ← List.map_append, ← List.map_append];congr 2;rw[List.append_assoc];(conv=>rhs;rw[← List.take_append_drop j u]);congr 1;rw[← List.drop_drop];exact List.take_append_drop _ _
   rw[e];exact QU) (Vi.drewN N) (fun b o e h=>by injection e with e;injection e with e;omega) (.inr (by rw[sG.YL];exact hx))
 rw[hlp,hlw]at mZ;exact mZ
theorem Ey {v u q:List Nat} {T m gu gv gq j n' g N:Nat} {rest:List Value} {w wo w1:World} {e:Ending} (sG:AG u v j n') (O2:u.length=m+v.length) (Vj:q.length=m) (hjm:j<m) (Za:gH q) (Zb:cN wo gq 3 (q.map nv)) (Vi:jl wo (bY gv 0) (v.map nv)) (hval:val u+val v*(1048576 ^ (j+1)*val (q.drop (j+1)))=T) (fL:Below w w wo) (h1:w.heap.size≤gu) (h2:gu<gv) (h3:gv<gq) (hq:val (u.drop j) / val v≤g) (hx:(g - 1)*val v≤val (u.drop j)) (hs:uR ((u.take j).map nv) ((u.drop (j+(n'+3))).map nv++rest) ((u.drop j).take (n'+3)) v g gu (wo.drewN N) e w1):∃ d:Nat,e= .returned (bU (d:Int))∧cN w1 gq 3 (q.map nv)∧RZ v T m gu gv gq rest w (w1.setCell (bY gq j) (bU (d:Int))) j:=by
 obtain⟨u',k1,k2,k3,k4,k5,k6⟩:=hs;have hn:=sG.hn;have hj:=sG.hj;rw[sG.YL,OG g _ _ sG.pos hq (.inr hx)]at k3 k4;have hlw:((u.drop j).take (n'+3)).length=n'+3:=aq;rw[hlw]at k1;have hB1:cN w1 gq 3 (q.map nv):=(k6.block gq (by have:=Zb.lt;simpa using this) (fun h=>by injection h with h;omega)).trans Zb;(have Vk:=sG.next (q:=q) k1 k3 af);have hgr:(wo.drewN N).grownBy w1 (some gu):=k6;refine⟨_,k4,hB1,swap u j (n'+3) u',q.set j (val (u.drop j) / val v),?_,by simpa using Vj,Ri sG.hu k2,Za.ez _ sG.quot,?_,hB1.VI _ _,?_,?_,Vk.1,?_⟩
 (·rw[Rh k1 af];exact O2)
 ·have hw':cN w1 gu 3 ((swap u j (n'+3) u').map nv++rest):=by
   have:cN w1 gu 3 _:=k5;unfold swap;simpa using this
  exact(Below.heap_setCell w1 (bY gq j) _ gu (fun e=>by simp at e;omega)).trans hw'
 (·have a1:=(Vi.drewN N).grown hgr (fun b o e h=>by injection e with e;injection e with e;injection h with h;omega);exact a1.grown (fF (World.grownBy.refl w1 (some gq)) j _) (fun b o e h=>by injection e with e;injection e with e;injection h with h;omega))
 (·rw[Vk.2];exact hval);have b1:Below w w (wo.drewN N):=below_drewN fL N;have b2:=b1.grown hgr (by have:=fL.size;simpa using this) (fun k hk=>by injection hk with hk;omega);exact b2.setCell (p:=bY gq j) (show w.heap.size≤gq by omega) _
theorem F3 (a b:List Nat) (A A':Option Addr) (c c':Nat) (w:World) (hca:Canon a) (hcb:Canon b) (ha:jl w A (a.map nv)) (hb:jl w A' (b.map nv)) (hl:a.length≤400000) (hl':b.length≤400000) (h2:2≤b.length) (hle:val b≤val a):Calls prog 308 #[.slice A a.length c,.slice A' b.length c'] w (tQ (val a) (val b) w):=by
 have hcmp:=sF a b A A' c c' w hca hcb ha hb af af;have hge:¬vK (val a) (val b)<0:=by
  rcases Nat.lt_or_ge (val b) (val a)with h|h
  (·rw[AW h];omega);rw[FC af];omega
 have HC:=aa hcmp;have HG:=aa hge;clear hcmp hge;obtain⟨b1,off1,y,rfl,B_,hcell1,XZ,HY⟩:=hb.dg hcb.1 (k:=b.length - 1) af;have hy0:0<y:=by
  have:=hcb.2 (fun e=>by subst e;simp at h2);rw[List.getLast_eq_getElem, ← kJ,HY.o]at this;omega
 have hb1n:((b.length:Int)==1)=false:=aq;go_enter func308,ntmps308;go_wp2_with fail;refine HC.o.mono ?_;rintro e w' ⟨rfl,n,rfl⟩;have hge:=HG.o;generalize vK (val a) (val b)=z at hge;clear HC HG;have hge2:decide (z<0)=false:=(by simpa using hge);go_wp2;go_loop [8] (fun t=>∃ s:Nat,0<s∧s<1048576∧t=bU (s:Int)) (fun t=>1048576 - (intOf t).toNat);(case atStart=>exact⟨1,by omega,by omega,rfl⟩);obtain⟨s,hs0,hs,rfl⟩:=hrel;have hp1:(y:Int)*(s:Int)≤1099509530625:=by
  have:y*s≤1048575*1048575:=Nat.mul_le_mul af af;have e:(y:Int)*(s:Int)=((y*s:Nat):Int):=ai;omega
 have KA:0≤(y:Int)*(s:Int):=Int.mul_nonneg af af;cases hq:decide ((y:Int)*(s:Int)<524288)with
 |true=>
  have hs2:s<524288:=by
   have h1:(y:Int)*(s:Int)<524288:=(by simpa using hq);have h3:1*s≤y*s:=aaF s hy0;have e:(y:Int)*(s:Int)=((y*s:Nat):Int):=ai;omega
  go_wp2;go_round;exact⟨s*2,by omega,by omega,int_eq af⟩;simp[intOf];omega
 |false=>
  have YK:val [s]=s:=(by simp[val]);have hds:gH [s]:=gH.cons hs gH.nil;have Cc:=F0 a [s] A (some ⟨w,0,none⟩) c 1 ((w.drewN n).alloc (.cells #[bU (s:Int)] 3)) hca.1 hds ((ha.drewN n).alloc _) (cN.arr (t:=3) (heap_alloc_new (w.drewN n) _)) aq;rw[YK]at Cc;have HM:=aa Cc;clear Cc;go_wp2_with fail;refine HM.o.mono ?_;have e0:((w.drewN n).alloc (.cells #[bU (s:Int)] 3)).heap.size=w.heap.size+1:=ai;rw[e0];clear e0;rintro e w1 ⟨cc,rfl,hcc,hcm,hown,hb1⟩;clear HM;have fL:Below w w w1:=(mg ((aaf w (w.drewN n)).alloc aac _)).trans (hb1.mono ai);have hg1:w.heap.size+1<w1.heap.size:=hown.lt;have hrow:=hown.row (base:=w) aH af;have hlen1:(gI (val a*s)).length≤a.length+1:=pK (by
   rw[Nat.pow_succ];exact Nat.mul_lt_mul'' (j4 hca.1) hs)
  obtain⟨i0,AY,hz0,hz1,hz2⟩:=info_parts NB;clear hown;go_wp2_with (at_builtin;refine fW _ rfl (.tmp 54) (.tmp 55) _ rfl w 3 i0 _ 1 8 underlying38 AY hz0 hz1 hz2 rfl af _ (gI (val a*s)).length ((gI (val a*s)).map nv) rfl ?c1 (w1.heap.size+1) (some ⟨w1,0,none⟩) 1 1 [nv 0] rfl ?c2 ?c3 ?c4 ?c5 ?c6 ?_);(case c1=>exact hrow.alloc _);case c2=>exact⟨rfl,fun _=>⟨_,rfl,by simp,fun j u hu=>by
   rcases j with _|j
   (·(obtain rfl:u=nv 0:=by simpa using hu.symm);exact(cN.cell (t:=3) (cs:=[nv 0]) (heap_alloc_new w1 _) 0));simp at hu⟩⟩
  (case c3=>exact fun u hu=>by(obtain rfl:u=nv 0:=by simpa using hu);rfl);(case c4=>unfold maxLen;omega);(case c5=>omega);(case c6=>simp;omega);intro vu w2 hown2 hg2 hat2;have Lx:Below w w w2:=(fL.alloc af _).grown hg2 aq bK;obtain⟨gu,cu,rest,rfl,hgub,hlcu,QU⟩:=V5 hown2 af;have V6:=QU.lt;clear hrow hown2 hg2 hat2 AY hz0 hz1 hz2;have hm2:=F0 b [s] (some ⟨b1,off1,none⟩) (some ⟨w2,0,none⟩) c' 1 (w2.alloc (.cells #[bU (s:Int)] 3)) hcb.1 hds ((hb.bZ Lx).alloc _) (cN.arr (t:=3) (heap_alloc_new w2 _)) aq;rw[YK]at hm2;have HM:=aa hm2;clear hm2;go_wp2_with fail;refine HM.o.mono ?_;have e0:(w2.alloc (.cells #[bU (s:Int)] 3)).heap.size=w2.heap.size+1:=ai;rw[e0];clear e0;rintro e w3 ⟨cv,rfl,hcv,hcvm,R1,hb3⟩;clear HM;have hBu3:=(QU.alloc (.cells #[bU (s:Int)] 3)).bZ hb3 af;have Zc:Below w w w3:=(Lx.alloc af _).trans (hb3.mono af);have hlb:a.length≤(gI (val a*s)).length:=by
   have:=j_ (m:=val a) (n:=val a*s) (Nat.le_mul_of_pos_right _ hs0)
   rwa [← kD hca]at this
  have V7:b.length≤(gI (val b*s)).length:=by
   have:=j_ (m:=val b) (n:=val b*s) (Nat.le_mul_of_pos_right _ hs0)
   rwa [← kD hcb]at this
  have hlb3:(gI (val b*s)).length≤(gI (val a*s)).length:=j_ (aaF s hle);have hT:0<val b*s:=Nat.mul_pos (by
   have:=mU hcb (fun e=>by subst e;simp at h2);have:=VF (b.length - 1);omega) hs0
  obtain⟨v,hv⟩:∃ v,v=gI (val b*s):=⟨_,rfl⟩;have hcan:Canon v:=(by rw[hv];exact pY _);have hvv:val v=val b*s:=(by rw[hv,jW]);rw[← hv]at V7 hlb3 hcv;obtain⟨m,hm⟩:∃ m,(gI (val a*s)).length+1=m+v.length:=⟨(gI (val a*s)).length+1 - v.length,by omega⟩;have hst:RZ v (val a*s) m gu (w2.heap.size+1) w3 rest w (w3.alloc (.cells ((aaw m (bU 0)).toArray) 3)) m:=by
   have V8:gH (gI (val a*s)++[0]):=(mM _).app (gH.cons af gH.nil);have O2:(gI (val a*s)++[0]).length=m+v.length:=aq;refine⟨gI (val a*s)++[0],aaw m 0,O2,by simp,V8,gH.zeros _,?_,?_,?_,?_,?_,Zc.alloc Zc.size _⟩
   (·have:=hBu3.alloc (.cells ((aaw m (bU 0)).toArray) 3);simpa using this)
   (·have:=heap_alloc_new w3 (.cells ((aaw m (bU 0)).toArray) 3);unfold cN;rw[List.map_replicate];exact this)
   (·rw[hv];exact R1.arr.alloc _)
   (·rw[List.drop_of_length_le ai];simp[val,mK,jW]);have mA:=mU hcan (fun e=>by rw[e]at V7;simp only[List.length_nil]at V7;omega);have hd:(gI (val a*s)++[0]).drop m=((gI (val a*s)).drop m)++[0]:=(by rw[List.drop_append_of_le_length af]);rw[hd,mK];have:=j4 ((mM (val a*s)).Nd m);rw[List.length_drop,show(gI (val a*s)).length - m=v.length - 1 by omega]at this;simp[val];omega
  have HST:=aa hst;have HVV:=aa hvv;have hne1:(((m:Int)+(v.length:Int))==(a.length:Int))=false:=aq;have hmk:∀ W:World,(Instr.makeSlice 38 (bU (m:Int)) (bU (m:Int))).run prog W= .ok (.slice (some ⟨W,0,none⟩) m m) (W.alloc (.cells ((aaw m (bU 0)).toArray) 3)):=fun W=>by
   have:=run_make_row' (P:=prog) 38 3 (bU 0) 8 underlying38 NB rfl .i64 .i64 m af af W;rw[tK]at this;exact this
  have hml:m+v.length≤400002:=af;have hcu:m+v.length≤cu:=af;have hv2:2≤v.length:=af;have Cc:1≤m:=af;have DR:gu<w2.heap.size+1:=af;have hgv:w2.heap.size+1<w3.heap.size:=R1.lt;rw[← hv,hm];clear hst hvv hBu3 QU hlcu R1 hb3 Lx fL hb1 hg1 hlen1 hlb V7 hlb3 hm hv hT hcv;go_wp2_with fail;clear hmk;generalize hgqd:w3.heap.size=gq at*;clear ha hb B_ hcell1 XZ HY hy0 hb1n hge hge2 hq hp1 KA hca hcb h2 hle hds YK hl hl' hcm hcvm hcc Zc V6 hne1;generalize (w2.heap.size+1)=gv at*;go_loopw [13] (fun t wr=>∃ k:Nat,k≤m∧t=bU ((k:Int) - 1)∧RZ v (val a*s) m gu gv gq rest w wr k) (fun t _=>(intOf t+1).toNat);(case atStart=>exact⟨m,aaB _,rfl,HST.o⟩);clear hgqd HST;obtain⟨k,hk,rfl,u,q,O2,Vj,V8,Za,QU,Zb,Vi,hval,mA,fL⟩:=hrel;by_cases h0:k=0
  ·subst h0;have X0:val u+val b*s*val q=val a*s:=by
    rw[← hval,HVV.o];simp
   rw[List.drop_zero,HVV.o]at mA;have HE:=aa (VH (val a) (val b) s (val u) (val q) hs0 X0 mA);have hAu:jl wr (some ⟨gu,0,none⟩) (u.map nv):=by
    have:=QU.arr.oh (u.map nv).length
    rwa [List.take_left' rfl]at this
   have ht1:=qi u (some ⟨gu,0,none⟩) cu wr V8 hAu af af;rw[O2]at ht1;have hAd:jl wr (some ⟨gu,0,none⟩) ((gI (val u)).map nv):=by
    have:=hAu.oh (gI (val u)).length
    rwa [← List.map_take, ← vJ V8]at this
   have hsh:=Ev (gI (val u)) s (some ⟨gu,0,none⟩) cu wr (mM _) hs0 af hAd (by have:=tJ V8;omega);rw[jW]at hsh;have Es:=aa ht1;have Hi:=aa hsh;have Vl:=aa Vj;clear ht1 hsh hval X0 O2 Vj;go_wp2_with fail;refine Es.o.mono ?_;rintro e w1 ⟨rfl,rfl⟩;go_wp2_with fail;refine Hi.o.mono ?_;rintro e w1 ⟨cc,rfl,hcc,hcm,hown,hb1⟩;clear Hi Es;have II:=Zb.bZ hb1 Zb.lt;have ht2:=qi q (some ⟨gq,0,none⟩) m w1 Za II.arr (by have:=Vl.o;omega) (by have:=Vl.o;omega);rw[Vl.o]at ht2;have Zd:=aa ht2;clear ht2;go_wp2_with fail;refine Zd.o.mono ?_;rintro e w2 ⟨rfl,rfl⟩;go_wp2;go_ret2;refine⟨_,_,rfl,?_,?_,fL.trans (hb1.mono fL.size)⟩
   ·rw[← HE.o.1];refine⟨_,m,rfl,?_,?_,fun b o h=>by injection h with h;injection h with h;omega⟩
    (·have:=tJ Za;have:=Vl.o;omega)
    ·have:=II.arr.oh (gI (val q)).length
     rwa [← List.map_take, ← vJ Za]at this
   rw[← HE.o.2];exact⟨_,cc,rfl,hcc,hown.arr,fun b o h=>by injection h with h;injection h with h;subst h;exact fL.size⟩
  obtain⟨j,rfl⟩:∃ j,k=j+1:=⟨k - 1,by omega⟩;have e5:(((j+1:Nat):Int) - 1)=(j:Int):=af;rw[e5];clear e5;obtain⟨n',hn'⟩:∃ n',v.length=n'+2:=⟨v.length - 2,by omega⟩;obtain⟨t2,hc2,ht2,Zd⟩:=QU.udg V8 (i:=j+v.length) af;obtain⟨t1,hc1,ht1,Es⟩:=QU.udg V8 (i:=j+v.length - 1) af;obtain⟨t0,hc0,ht0,Vm⟩:=QU.udg V8 (i:=j+v.length - 2) af;obtain⟨_,_,v1,e1,_,hcv1,hv1l,HV1⟩:=Vi.dg hcan.1 (k:=v.length - 1) af;injection e1 with e1;injection e1 with e1 e2;subst e1 e2;obtain⟨_,_,v0,e1,_,hcv0,hv0l,HV0⟩:=Vi.dg hcan.1 (k:=v.length - 2) af;injection e1 with e1;injection e1 with e1 e2;subst e1 e2;simp only[Nat.zero_add]at hcv1 hcv0;have hv10:0<v1:=by
   have:=hcan.2 (fun e=>by rw[e]at hv2;simp at hv2);rw[List.getLast_eq_getElem, ← kJ,HV1.o]at this;omega
  obtain⟨top,Ze⟩:∃ top:Nat,top=t2*1048576+t1:=⟨_,rfl⟩;have sG:AG u v j n':=⟨V8,hcan.1,hn',by omega,by rw[show n'+1=v.length - 1 by omega,HV1.o];exact hv10,mA⟩;have HW:=aa sG;have HPK:=aa (sG.pack Zd.o Es.o Vm.o HV1.o HV0.o Ze);have htl:(top:Int)<1099511627776:=af;have HTOP:=aa Ze;clear Ze;have X1:=aa O2;have Vl:=aa Vj;have HVAL:=aa hval;have HNN:=aa hn';clear O2 Vj hval hn' sG;have YW:j+v.length<m+v.length:=af;have f1:((j:Int)+(v.length:Int)).toNat=j+v.length:=af;have f2:((j:Int)+(v.length:Int) - 1).toNat=j+v.length - 1:=af;have f3:((v.length:Int) - 1).toNat=v.length - 1:=af;have Vh:=KX t2 t1 top HTOP.o ht2 ht1;clear YW mA;go_wp2_with fail;go_quiet (fail);generalize (t2:Int)*1048576=x89;clear Vh;go_wp2_with fail;go_quiet (fail);obtain⟨wo,rfl⟩:∃ wo:World,wo=wr:=⟨_,rfl⟩;have hgd:(top:Int) / (v1:Int)=((top / v1:Nat):Int):=(by rw[Int.natCast_ediv]);have IJ:(top:Int) % (v1:Int)=((top % v1:Nat):Int):=(by rw[Int.natCast_emod]);have hwr:wrap64 ((top / v1:Nat):Int)=((top / v1:Nat):Int):=by
   have:=Nat.div_le_self top v1;generalize top / v1=g0 at*;exact IntWalk.wrap64_in _ ⟨by omega,by omega⟩
  rw[hgd,IJ,hwr];clear hgd IJ hwr;go_wp2;go_loopw [15,16] (fun t r wq=>∃ g rs nd:Nat,t=bU (g:Int)∧r=bU (rs:Int)∧g≤1099511627776∧rs≤1099511627776∧wq=wo.drewN nd∧Hid (g*v1+rs=top∧val (u.drop j) / val v≤g)) (fun t _ _=>(intOf t).toNat);(case atStart=>(have h1:=HPK.o.first hv10);have h2:=h1.2.2;generalize top / v1=g0 at*;generalize top % v1=r0 at*;exact⟨g0,r0,_,rfl,rfl,by omega,by omega,by rw[World.drewN_drewN],h1.1,h1.2.1⟩);obtain⟨g,rs,nd,rfl,rfl,hgb,hrb,rfl,HG⟩:=hrel;have f4:((v.length:Int) - 2).toNat=v.length - 2:=af;have f5:((j:Int)+(v.length:Int) - 2).toNat=j+v.length - 2:=af;by_cases hga:1048576≤g
  (·have hA:decide ((1048576:Int)≤(g:Int))=true:=aq;have HD:=aa (HPK.o.dec HG.o.1 HG.o.2 (.inl hga));have hrs2:rs+v1≤top:=HD.o.2.2.2;have hg0:0<g:=af;go_wp2_with fail;go_quiet (fail);go_wp2;go_roundw;exact⟨g - 1,rs+v1,nd+nq,int_eq af,int_eq af,by omega,by omega,rfl,HD.o.2.1,HD.o.2.2.1⟩;simp[intOf];omega);have hA:decide ((1048576:Int)≤(g:Int))=false:=aq;have xI:g<1048576:=af;by_cases hrb2:1048576≤rs
  (·have hB:decide ((rs:Int)<1048576)=false:=aq;have HX:=aa (HPK.o.stop g rs HG.o.1 xI (.inl hrb2));go_wp2_with fail;go_quiet (fail);go_wp2_with fail;rw[show j+v.length+1 - j=v.length+1 by omega];refine(Cb (cu:=cu) (cv:=cv) HW.o QU Vi DR (by have:=X1.o;omega) xI HX.o).mono ?_;intro e w1 hpost;obtain⟨d,rfl,II,hAt⟩:=Ey HW.o X1.o Vl.o af Za Zb Vi HVAL.o fL hgub DR hgv HG.o.2 HX.o hpost;clear hpost;have hcq:b_ w1 gq j (bU ((q.getD j 0:Nat):Int)):=II.nat (by have:=Vl.o;omega);generalize q.getD j 0=qj at hcq;have hfq:=II.frozen j;have Ve:=aa hAt;clear hAt;go_wp2;go_roundw;exact⟨j,by omega,rfl,Ve.o⟩;simp[intOf]);have hB:decide ((rs:Int)<1048576)=true:=aq;have hrl:rs<1048576:=af;obtain⟨x,hx⟩:∃ x:Nat,x=rs*1048576+t0:=⟨_,rfl⟩;have hxl:x<1099511627776:=af;have hp1:(g:Int)*(v0:Int)≤1099509530625:=by
   have:g*v0≤1048575*1048575:=Nat.mul_le_mul af af;have e:(g:Int)*(v0:Int)=((g*v0:Nat):Int):=ai;omega
  have KA:0≤(g:Int)*(v0:Int):=Int.mul_nonneg af af;by_cases hgt:x<g*v0
  ·have hC:decide ((x:Int)<(g:Int)*(v0:Int))=true:=by
    have e:(g:Int)*(v0:Int)=((g*v0:Nat):Int):=ai;rw[e];simp;omega
   have HD:=aa (HPK.o.dec HG.o.1 HG.o.2 (.inr (by rw[← hx];exact hgt)));have hrs2:rs+v1≤top:=HD.o.2.2.2;have hg0:0<g:=HD.o.1;have HX2:=aa hx;clear hx;have Vh:=KX rs t0 x HX2.o hrl ht0;go_wp2_with fail;go_quiet (fail);generalize (rs:Int)*1048576=x126;clear Vh;go_wp2;go_roundw;exact⟨g - 1,rs+v1,nd+nq,int_eq af,int_eq af,by omega,by omega,rfl,HD.o.2.1,HD.o.2.2.1⟩;simp[intOf];omega
  have hC:decide ((x:Int)<(g:Int)*(v0:Int))=false:=by
   have e:(g:Int)*(v0:Int)=((g*v0:Nat):Int):=ai;rw[e];simp;omega
  have HX:=aa (HPK.o.stop g rs HG.o.1 xI (.inr (by rw[← hx];omega)));have HX2:=aa hx;clear hx;have Vh:=KX rs t0 x HX2.o hrl ht0;go_wp2_with fail;go_quiet (fail);generalize (rs:Int)*1048576=x126;clear Vh;go_wp2_with fail;rw[show j+v.length+1 - j=v.length+1 by omega];refine(Cb (cu:=cu) (cv:=cv) HW.o QU Vi DR (by have:=X1.o;omega) xI HX.o).mono ?_;intro e w1 hpost;obtain⟨d,rfl,II,hAt⟩:=Ey HW.o X1.o Vl.o af Za Zb Vi HVAL.o fL hgub DR hgv HG.o.2 HX.o hpost;clear hpost;have hcq:b_ w1 gq j (bU ((q.getD j 0:Nat):Int)):=II.nat (by have:=Vl.o;omega);generalize q.getD j 0=qj at hcq;have hfq:=II.frozen j;have Ve:=aa hAt;clear hAt;go_wp2;go_roundw;exact⟨j,by omega,rfl,Ve.o⟩;simp[intOf]
theorem ND (a b:List Nat) (A A':Option Addr) (c c':Nat) (w:World) (hca:Canon a) (hcb:Canon b) (ha:jl w A (a.map nv)) (hb:jl w A' (b.map nv)) (hl:a.length≤400000) (hl':b.length≤400000) (hne:b≠[]):Calls prog 308 #[bW A a c,bW A' b c'] w (tQ (val a) (val b) w):=by
 rcases Nat.lt_or_ge (val a) (val b)with hlt|hge
 (·exact F2 a b A A' c c' w hca hcb ha hb af af hlt);rcases b with _|⟨d,_|⟨d2,r⟩⟩
 (·exact absurd rfl hne)
 ·have hv:val [d]=d:=(by simp[val]);have h0:0<d:=by
   have:=hcb.2 ai;simp at this;omega
  rw[hv]at hge ⊢;exact IG a d A A' c c' w hca h0 (hcb.1 d ai) ha hb af hge
 exact F3 a (d :: d2 :: r) A A' c c' w hca hcb ha hb hl hl' ai hge
section
def dA (M:Nat) (w:World) (s:Int) (A:Option Addr) (n:Nat) (b:iO):Prop:=b.sign=s∧b.dg.length=n∧n≤M∧jl w A (b.dg.map iv)
section
variable {M M' n:Nat} {w w':World} {s:Int} {A:Option Addr} {b:iO}
theorem dA.bZ (h:dA M w s A n b) (hb:Below w w w'):dA M w' s A n b:=⟨h.1,h.2.1,h.2.2.1,h.2.2.2.bZ hb⟩
theorem dA.alloc (h:dA M w s A n b) (o:Obj):dA M (w.alloc o) s A n b:=⟨h.1,h.2.1,h.2.2.1,h.2.2.2.alloc o⟩
theorem dA.drew (h:dA M w s A n b):dA M w.drew s A n b:=h
theorem dA.drewN (h:dA M w s A n b) (k:Nat):dA M (w.drewN k) s A n b:=h
theorem dA.up (h:dA M w s A n b) (hM:M≤M'):dA M' w s A n b:=⟨h.1,h.2.1,aaC h.2.2.1 hM,h.2.2.2⟩
theorem dA.le (h:dA M w s A n b):n≤M:=h.2.2.1
theorem qO (M:Nat) (w:World):dA M w 0 none 0 zb:=⟨rfl,rfl,aaG _,jl.nil⟩
end
def dS (B:Nat) (A:Option Addr):Prop:=∀ b o,A=bY b o→B≤b
theorem dS.none_ (B:Nat):dS B none:=fun b o h=>by cases h
theorem dS.low {B B':Nat} {A:Option Addr} (h:dS B A) (hB:B'≤B):dS B' A:=fun b o e=>aaC hB (h b o e)
theorem jl.cF {w:World} {A:Option Addr} {xs:List Value} {B g i:Nat} (h:jl w A xs) (hf:dS B A) (hg:g<B) (u:Value):jl (w.setCell (bY g i) u) A xs:=
 h.grown (fF (World.grownBy.refl w (some g)) i u) (fun b o e h=>by injection h with h;have:=hf b o e;omega)
theorem dA.cF {M n:Nat} {w:World} {s:Int} {A:Option Addr} {b:iO} {B g i:Nat} (h:dA M w s A n b) (hf:dS B A) (hg:g<B) (u:Value):dA M (w.setCell (bY g i) u) s A n b:=⟨h.1,h.2.1,h.2.2.1,h.2.2.2.cF hf hg u⟩
def R2 (M:Nat) (b:iO) (w:World) (e:Ending) (w':World):Prop:=∃ s A n c,e= .returned (.agg #[bU s,bW A n c])∧dA M w' s A n b∧dS w A∧Below w w w'
def Zf (M:Nat) (A0:Option Addr) (b:iO) (w:World) (e:Ending) (w':World):Prop:=∃ s A n c,e= .returned (.agg #[bU s,bW A n c])∧dA M w' s A n b∧(A=none∨A=A0)∧Below w w w'
theorem oy {B:Nat} {A A0:Option Addr} (h:A=none∨A=A0) (h0:dS B A0):dS B A:=by
 rcases h with h|h
 (·rw[h];exact dS.none_ B);rw[h];exact h0
theorem jN {M n:Nat} {w:World} {s:Int} {A:Option Addr} {b:iO} (c:Nat) (h:dA M w s A n b) (hM:M≤1000000):Calls prog 283 #[.agg #[bU s,bW A n c]] w (Ny (dF b) w):=by
 obtain⟨rfl,rfl,h3,h4⟩:=h;exact O1 b A c w h4 af
theorem X2 (l:List Nat):(l.map Int.ofNat).map iv=l.map nv:=by
 rw[List.map_map];rfl
theorem NF {W w1:World} (hb:Below W W w1):(∀ b o,b<W.heap.size→w1.cell? (bY b o)=W.cell? (bY b o))∧(∀ b o,b<W.heap.size→w1.frozen? (bY b o)=W.frozen? (bY b o)):=
 ⟨fun b o h=>hb.cell (p:=bY b o) h,fun b o h=>hb.frozen (p:=bY b o) h⟩
theorem O4 {M:Nat} {w:World} {s:Int} {A:Option Addr} {xs:List Nat} (hd:gH xs) (ha:jl w A (xs.map nv)) (hn:xs.length≤M) (h0:val xs≠0):dA M w s A (gI (val xs)).length (oV s (val xs)):=by
 have:=tJ hd
 refine⟨by unfold oV;rw[if_neg h0],by simp[oV],by omega,?_⟩
 show jl w A (((gI (val xs)).map Int.ofNat).map iv)
 rw[X2]
 have:=ha.oh (gI (val xs)).length
 rwa [← List.map_take, ← vJ hd]at this
theorem oz {n:Nat} (M:Nat) (s:Int) (xs:List Nat) (A:Option Addr) (c:Nat) (w:World) (hn:xs.length=n) (hd:gH xs) (ha:jl w A (xs.map nv)) (hc:n≤c) (hl:n≤M) (hM:M≤1000000):Calls prog 248 #[bU s,bW A n c] w (Zf M A (oV s (val xs)) w):=by
 subst hn;have ht:=fun W (h:jl W A (xs.map nv))=>qi xs A c W hd h hc af;have HT:=aa (ht _ (ha.alloc (.cells #[bU 0,cD] 161)));clear ht;have hb:Below w w (w.alloc (.cells #[bU 0,cD] 161)):=cS _;by_cases h0:val xs=0
 (·have HZ:=aa (show(gI (val xs)).length=0 by rw[h0,gL];rfl);have HO:=aa (show oV s (val xs)=zb by rw[h0];exact Hx s);clear h0;have hz:(((gI (val xs)).length:Int)==0)=true:=(by rw[HZ.o];rfl);go_enter func248,ntmps248;go_wp2_with (go_at_call 282;refine HT.o.mono ?_;rintro e w' ⟨rfl,rfl⟩);rw[HO.o];exact bodyPost_ret (v:= .agg #[bU 0,cD]) (by simp[results,results248,go_sem]) rfl ⟨0,none,0,0,rfl,qO _ _,.inl rfl,hb⟩);have hnz:(gI (val xs)).length≠0:=fun h=>h0 ((mR _).1 (aaj h));have hz:(((gI (val xs)).length:Int)==0)=false:=(by simpa using hnz);have HO:=aa (fun W (h:jl W A (xs.map nv))=>O4 (s:=s) hd h hl h0);clear h0 hnz;go_enter func248,ntmps248;go_wp2_with (go_at_call 282;refine HT.o.mono ?_;rintro e w' ⟨rfl,rfl⟩);exact bodyPost_ret (v:= .agg #[bU s,bW A (gI (val xs)).length c]) (by simp[results,results248,go_sem]) rfl ⟨s,A,_,c,rfl,HO.o _ (ha.bZ (cS _)),.inr rfl,cS _⟩
def V9 (M:Nat) (A0:Option Addr) (b:iO) (m:Int) (w:World) (e:Ending) (w':World):Prop:=∃ s A n c,e= .returned (.tuple #[.agg #[bU s,bW A n c],bU m])∧dA M w' s A n b∧(A=none∨A=A0)∧Below w w w'
def NG (M:Nat) (b:iO) (m:Int) (w:World) (e:Ending) (w':World):Prop:=∃ s A n c,e= .returned (.tuple #[.agg #[bU s,bW A n c],bU m])∧dA M w' s A n b∧dS w A∧Below w w w'
theorem zC {M n:Nat} {s:Int} {A:Option Addr} {b:iO} (r:Bool) (c:Nat) (w:World) (h:dA M w s A n b):Calls prog 307 #[.bool r,.agg #[bU s,bW A n c]] w (V9 M A (if r then b else zb) (if r then 0 else 1) w):=by
 have hb:∀ o1 o2,Below w w ((w.alloc o1).alloc o2):=fun o1 o2=>(cS _).alloc ai _;have H:=aa h;clear h;cases r with
 |true=>
  go_enter func307,ntmps307;go_wp2;exact bodyPost_ret (v:= .tuple #[.agg #[bU s,bW A n c],bU 0]) (by simp[results,results307,go_sem]) rfl ⟨s,A,n,c,rfl,(H.o.alloc _).alloc _,.inr rfl,hb _ _⟩
 |false=>
  go_enter func307,ntmps307;go_wp2;exact bodyPost_ret (v:= .tuple #[.agg #[bU 0,cD],bU 1]) (by simp[results,results307,go_sem]) rfl ⟨0,none,0,0,rfl,qO _ _,.inl rfl,hb _ _⟩
def Zg (l:List Nat) (n:Nat) (w:World) (e:Ending) (w':World):Prop:=∃ A' c',e= .returned (bW A' n c')∧jl w' A' (l.map nv)∧n≤c'∧dS w A'∧Below w w w'
theorem NH {n:Nat} (l:List Nat) (A:Option Addr) (c:Nat) (w:World) (hn:l.length=n) (ha:jl w A (l.map nv)) (hl:n≤1000000):Calls prog 306 #[bW A n c] w (Zg l n w):=by
 subst hn;have:=Ex (l.map nv) A c w (RY l) ha (by simpa using hl);rw[aap]at this;refine this.mono ?_;rintro e w' ⟨A',c',h1,h2,h3,h4,h5⟩;rw[aap]at h1 h3;exact⟨A',c',h1,h2,h3,h4,h5⟩
theorem iH {M n:Nat} {w:World} {s:Int} {A:Option Addr} {b:iO} (h:dA M w s A n b) (hr:dF b=true):(jD b.dg).length=n∧Canon (jD b.dg)∧jl w A ((jD b.dg).map nv)∧-1≤s∧s≤1∧(s=0↔val (jD b.dg)=0):=by
 obtain⟨rfl,rfl,h3,h4⟩:=h;have hs:=oW hr;refine⟨by simp[jD],vL hr,by rw[← X2,Eh (uK hr)];exact h4,by omega,by omega,(kQ hr).symm⟩
end
theorem d_ {w w':World} (h:Below w.drew.heap.size w.drew w'):Below w w w':=⟨h.os,h.tape,h.output,h.size,h.block⟩
def MulN (v:Nat) (w:World) (e:Ending) (w':World):Prop:=∃ A l c,e= .returned (bW A l c)∧jl w' A ((gI v).map nv)∧((gI v).length≤c∧(gI v).length=l)∧dS w A∧Below w w w'
theorem mul_n {n n':Nat} (a b:List Nat) (A A':Option Addr) (c c':Nat) (w:World) (hn:a.length=n) (hn':b.length=n') (hda:gH a) (hdb:gH b) (ha:jl w A (a.map nv)) (hb:jl w A' (b.map nv)) (hl:n+n'≤1000000):Calls prog 312 #[bW A n c,bW A' n' c'] w (MulN (val a*val b) w):=by
 subst hn hn';refine(F0 a b A A' c c' w hda hdb ha hb hl).mono ?_;rintro e w' ⟨cc,h1,h2,h3,h4,h5⟩;exact⟨_,_,cc,h1,h4.arr,⟨h2,rfl⟩,fun b o e=>by injection e with e;injection e with e;omega,h5⟩
theorem V_ {n n' M M':Nat} {a b:List Nat} (hn:a.length=n) (hn':b.length=n') (hda:gH a) (hdb:gH b) (h:n≤M) (h':n'≤M'):(gI (val a*val b)).length≤M+M':=by
 have h1:(gI (val a*val b)).length≤a.length+b.length:=pK (by
  rw[Nat.pow_add];exact Nat.mul_lt_mul'' (j4 hda) (j4 hdb))
 omega
theorem Lz {s t:Int} (h1:-1≤s) (h2:s≤1) (h3:-1≤t) (h4:t≤1):-9223372036854775808≤s*t∧s*t≤9223372036854775807:=by
 rcases(show s=-1∨s=0∨s=1 by omega)with h|h|h<;>subst h<;>simp<;>omega
theorem R3 {M M' n n':Nat} {s s':Int} {A A':Option Addr} {a b:iO} (c c':Nat) (w:World) (h:dA M w s A n a) (h':dA M' w s' A' n' b) (vC:dF a=true) (hrb:dF b=true) (hM:M+M'≤1000000):Calls prog 288 #[.agg #[bU s,bW A n c],.agg #[bU s',bW A' n' c']] w (NG (M+M') (rM a b) 0 w):=by
 have hr:=fun W (h:dA M W s A n a)=>jN c h af;have hr':=fun W (h:dA M' W s' A' n' b)=>jN c' h af;rw[vC]at hr;rw[hrb]at hr';have H:=aa h;have H':=aa h';have HR:=aa hr;have R4:=aa hr';have hle:=h.le;have hle':=h'.le;obtain⟨p1,p2,p3,p4,p5,p6⟩:=iH h vC;obtain⟨q1,q2,q3,q4,q5,q6⟩:=iH h' hrb;have HN:=aa (show rM a b=oV (s*s') (val (jD a.dg)*val (jD b.dg)) by unfold rM;rw[vC,hrb,h.1,h'.1];rfl);have HM:=aa (fun W (k:jl W A ((jD a.dg).map nv)) (k':jl W A' ((jD b.dg).map nv))=>mul_n (n:=n) (n':=n') (jD a.dg) (jD b.dg) A A' c c' W p1 q1 p2.1 q2.1 k k' af);have HSg:=aa (fun W A3 c3 (k:jl W A3 ((gI (val (jD a.dg)*val (jD b.dg))).map nv)) (hc:(gI (val (jD a.dg)*val (jD b.dg))).length≤c3)=>oz (n:=(gI (val (jD a.dg)*val (jD b.dg))).length) (M+M') (s*s') (gI (val (jD a.dg)*val (jD b.dg))) A3 c3 W rfl (mM _) k hc (V_ p1 q1 p2.1 q2.1 hle hle') hM);have HP:=aa p3;have HQ:=aa q3;have hw1:IntKind.i64.wrap (s*s')=s*s':=IntWalk.i64_in _ (Lz p4 p5 q4 q5);clear hr hr' h h' vC hrb p1 p2 p3 p6 q1 q2 q3 q6;go_enter func288,ntmps288;go_wp2_with fail;refine(HR.o _ (((H.o.alloc _).alloc _).alloc _)).mono ?_;rintro e w1 ⟨rfl,hb1⟩;(have hz1:w.heap.size+1+1<w1:=by have:=hb1.size;simp at this;omega);have fL:Below w w w1:=((((aaf _ w).alloc aac _).alloc ai _).alloc aj _).trans (hb1.mono aj);obtain⟨hc1,jy⟩:=NF hb1;have e0:b_ w1 w 0 (bU s):=(by rw[hc1 (w.heap.size) 0 aj];simp[go_sem]);have e1:b_ w1 w 1 (bW A n c):=(by rw[hc1 (w.heap.size) 1 aj];simp[go_sem]);have e2:b_ w1 (w+1) 0 (bU s'):=(by rw[hc1 (w+1) 0 aj];simp[go_sem]);have e3:b_ w1 (w+1) 1 (bW A' n' c'):=(by rw[hc1 (w+1) 1 aj];simp[go_sem]);have e4:b_ w1 (w+1+1) 0 (bU 0):=(by rw[hc1 (w+1+1) 0 aj];simp[go_sem]);have e4f:w1.frozen? (bY (w+1+1) 0)=false:=(by rw[jy (w+1+1) 0 aj];simp[go_sem]);have e5:b_ w1 (w+1+1) 1 (bW none 0 0):=(by rw[hc1 (w+1+1) 1 aj];simp[go_sem]);have e5f:w1.frozen? (bY (w+1+1) 1)=false:=(by rw[jy (w+1+1) 1 aj];simp[go_sem]);have sj:=aa fL;clear hb1 hc1 jy fL;go_wp2_with fail;refine(R4.o _ (H'.o.bZ sj.o)).mono ?_;rintro e w2 ⟨rfl,hb2⟩;have hz2:w.heap.size+1+1<w2:=aaD hz1 hb2.size;have e0b:b_ w2 w 0 (bU s):=(hb2.cell (p:=bY w 0) (show w.heap.size<_ by omega)).trans e0;have e1b:b_ w2 w 1 (bW A n c):=(hb2.cell (p:=bY w 1) (show w.heap.size<_ by omega)).trans e1;have e2b:b_ w2 (w+1) 0 (bU s'):=(hb2.cell (p:=bY (w+1) 0) (show w.heap.size+1<_ by omega)).trans e2;have e3b:b_ w2 (w+1) 1 (bW A' n' c'):=(hb2.cell (p:=bY (w+1) 1) (show w.heap.size+1<_ by omega)).trans e3;have e4b:b_ w2 (w+1+1) 0 (bU 0):=(hb2.cell (p:=bY (w+1+1) 0) (show w.heap.size+1+1<_ by omega)).trans e4;have Wb:w2.frozen? (bY (w+1+1) 0)=false:=(hb2.frozen (p:=bY (w+1+1) 0) (show w.heap.size+1+1<_ by omega)).trans e4f;have e5b:b_ w2 (w+1+1) 1 (bW none 0 0):=(hb2.cell (p:=bY (w+1+1) 1) (show w.heap.size+1+1<_ by omega)).trans e5;have Wc:w2.frozen? (bY (w+1+1) 1)=false:=(hb2.frozen (p:=bY (w+1+1) 1) (show w.heap.size+1+1<_ by omega)).trans e5f;have dI:=aa (sj.o.trans (hb2.mono sj.o.size));clear hb2 sj e0 e1 e2 e3 e4 e5 e4f e5f;have Vf:¬(w.heap.size=w.heap.size+1+1):=af;have hn2:¬(w.heap.size+1+1=w):=af;go_wp2_with fail;go_region_held3 (fun w'=>b_ w' w 0 (bU s)∧b_ w' w 1 (bW A n c)∧b_ w' (w+1) 0 (bU s')∧b_ w' (w+1) 1 (bW A' n' c')) (go_keep)
  (first
   |(go_at_call 312;(with_reducible refine(HM.o _ (HP.o.bZ dI.o).drew (HQ.o.bZ dI.o).drew).mono ?_);rintro e w3 ⟨A3,l3,c3,rfl,Ce,hl3,hf3,hb3⟩;have Zh:=aa hl3;have QV:=aa hf3;have zD:=aa Ce;have eE:=aa (dI.o.trans ((d_ hb3).mono dI.o.size));have Zi:b_ w3 w 0 (.int .i64 s):=((d_ hb3).cell (p:=⟨w,0,none⟩) (show w.heap.size<_ by omega)).trans e0b;have Zj:b_ w3 w 1 (.slice A n c):=((d_ hb3).cell (p:=⟨w,1,none⟩) (show w.heap.size<_ by omega)).trans e1b;have Zk:b_ w3 (w+1) 0 (Value.int .i64 s'):=((d_ hb3).cell (p:=⟨↑w+1,0,none⟩) (show w.heap.size+1<_ by omega)).trans e2b;have Zl:b_ w3 (w+1) 1 (Value.slice A' n' c'):=((d_ hb3).cell (p:=⟨↑w+1,1,none⟩) (show w.heap.size+1<_ by omega)).trans e3b;have Zm:b_ w3 (w+1+1) 0 (Value.int .i64 0):=((d_ hb3).cell (p:=⟨↑w+1+1,0,none⟩) (show w.heap.size+1+1<_ by omega)).trans e4b;have R5:w3.frozen? ⟨↑w+1+1,0,none⟩=false:=((d_ hb3).frozen (p:=⟨↑w+1+1,0,none⟩) (show w.heap.size+1+1<_ by omega)).trans Wb;have Zn:b_ w3 (w+1+1) 1 (Value.slice none 0 0):=((d_ hb3).cell (p:=⟨↑w+1+1,1,none⟩) (show w.heap.size+1+1<_ by omega)).trans e5b;have R6:w3.frozen? ⟨↑w+1+1,1,none⟩=false:=((d_ hb3).frozen (p:=⟨↑w+1+1,1,none⟩) (show w.heap.size+1+1<_ by omega)).trans Wc;have hz3:w.heap.size+1+1<w3:=aaD hz2 (d_ hb3).size;clear hb3 hf3 hl3 Ce)
   |(go_at_call 248;(with_reducible refine(Zh.o.2▸HSg.o _ _ _ zD.o Zh.o.1).mono ?_);rintro e w4 ⟨s4,A4,n4,c4,rfl,IK,Ez,hb4⟩;have LB:=aa IK;have Wd:=aa (oy Ez QV.o);have gz:=aa (eE.o.trans (hb4.mono eE.o.size));have e0bcd:b_ w4 w 0 (.int .i64 s):=(hb4.cell (p:=⟨w,0,none⟩) (show w.heap.size<_ by omega)).trans Zi;have e1bcd:b_ w4 w 1 (.slice A n c):=(hb4.cell (p:=⟨w,1,none⟩) (show w.heap.size<_ by omega)).trans Zj;have e2bcd:b_ w4 (w+1) 0 (Value.int .i64 s'):=(hb4.cell (p:=⟨↑w+1,0,none⟩) (show w.heap.size+1<_ by omega)).trans Zk;have e3bcd:b_ w4 (w+1) 1 (Value.slice A' n' c'):=(hb4.cell (p:=⟨↑w+1,1,none⟩) (show w.heap.size+1<_ by omega)).trans Zl;have e4bcd:b_ w4 (w+1+1) 0 (Value.int .i64 0):=(hb4.cell (p:=⟨↑w+1+1,0,none⟩) (show w.heap.size+1+1<_ by omega)).trans Zm;have Zo:w4.frozen? ⟨↑w+1+1,0,none⟩=false:=(hb4.frozen (p:=⟨↑w+1+1,0,none⟩) (show w.heap.size+1+1<_ by omega)).trans R5;have e5bcd:b_ w4 (w+1+1) 1 (Value.slice none 0 0):=(hb4.cell (p:=⟨↑w+1+1,1,none⟩) (show w.heap.size+1+1<_ by omega)).trans Zn;have Zp:w4.frozen? ⟨↑w+1+1,1,none⟩=false:=(hb4.frozen (p:=⟨↑w+1+1,1,none⟩) (show w.heap.size+1+1<_ by omega)).trans R6;have hz4:w.heap.size+1+1<w4:=aaD hz3 hb4.size;clear hb4 Ez IK)
   |(go_at_call 307;(with_reducible refine(zC true _ _ LB.o).mono ?_);rintro e w5 ⟨s5,A5,n5,c5,rfl,nS,O5,ew⟩;have xX:=aa nS;have o_:=aa (oy O5 Wd.o);have dO:=aa (gz.o.trans (ew.mono gz.o.size));have e0bcdg:b_ w5 w 0 (.int .i64 s):=(ew.cell (p:=⟨w,0,none⟩) (show w.heap.size<_ by omega)).trans e0bcd;have e1bcdg:b_ w5 w 1 (.slice A n c):=(ew.cell (p:=⟨w,1,none⟩) (show w.heap.size<_ by omega)).trans e1bcd;have e2bcdg:b_ w5 (w+1) 0 (Value.int .i64 s'):=(ew.cell (p:=⟨↑w+1,0,none⟩) (show w.heap.size+1<_ by omega)).trans e2bcd;have e3bcdg:b_ w5 (w+1) 1 (Value.slice A' n' c'):=(ew.cell (p:=⟨↑w+1,1,none⟩) (show w.heap.size+1<_ by omega)).trans e3bcd;have Zq:b_ w5 (w+1+1) 0 (Value.int .i64 0):=(ew.cell (p:=⟨↑w+1+1,0,none⟩) (show w.heap.size+1+1<_ by omega)).trans e4bcd;have e4bcdgf:w5.frozen? ⟨↑w+1+1,0,none⟩=false:=(ew.frozen (p:=⟨↑w+1+1,0,none⟩) (show w.heap.size+1+1<_ by omega)).trans Zo;have Zr:b_ w5 (w+1+1) 1 (Value.slice none 0 0):=(ew.cell (p:=⟨↑w+1+1,1,none⟩) (show w.heap.size+1+1<_ by omega)).trans e5bcd;have e5bcdgf:w5.frozen? ⟨↑w+1+1,1,none⟩=false:=(ew.frozen (p:=⟨↑w+1+1,1,none⟩) (show w.heap.size+1+1<_ by omega)).trans Zp;have hz5:w.heap.size+1+1<w5:=aaD hz4 ew.size;clear ew O5 nS))
 clear hw1;go_wp2;rw[HN.o];have hf:dS w2 A5:=o_.o;(have nS:dA (M+M') w5 s5 A5 n5 (oV (s*s') (val (jD a.dg)*val (jD b.dg))):=by have:=xX.o;rw[jW]at this;exact this);exact bodyPost_ret (v:= .tuple #[.agg #[bU s5,bW A5 n5 c5],bU 0]) (by simp[results,results288,go_sem,Zq,Zr]) rfl ⟨s5,A5,n5,c5,rfl,(nS.cF hf hz2 _).cF hf hz2 _,hf.low dI.o.size,(dO.o.setCell aj _).setCell aj _⟩
theorem div_n {x y M:Nat} {A A':Option Addr} {c c':Nat} (w:World) (ha:jl w A ((gI x).map nv)) (hb:jl w A' ((gI y).map nv)) (hx:(gI x).length≤M) (hy:(gI y).length≤M) (hM:M≤400000) (h0:y≠0):Calls prog 308 #[bW A (gI x).length c,bW A' (gI y).length c'] w (tQ x y w):=by
 have:=ND (gI x) (gI y) A A' c c' w (pY x) (pY y) ha hb af af (fun e=>h0 ((mR y).1 e));rw[jW,jW]at this;exact this
def xY (w:World) (v:Value) (n:Nat):Prop:=∃ A c,v=bW A (gI n).length c∧jl w A ((gI n).map nv)
theorem xY.bZ {w w':World} {v:Value} {n:Nat} (h:xY w v n) (hb:Below w w w'):xY w' v n:=by
 obtain⟨A,c,h1,h2⟩:=h;exact⟨A,c,h1,h2.bZ hb⟩
theorem uS.to0 {B:Nat} {w:World} {v:Value} {n:Nat} (h:uS B w v n):xY w v n:=by
 obtain⟨A,c,h1,h2,h3,_⟩:=h;exact⟨A,c,h1,h3⟩
def X3 (G M:Nat) (w wr:World) (x y:Nat) (v6 v7:Value):Prop:=
 Nat.gcd x y=G∧(gI x).length≤M∧(gI y).length≤M∧xY wr v6 x∧xY wr v7 y∧Below w w wr
theorem NI {M M' n n':Nat} {s s':Int} {A A':Option Addr} {a b:iO} (c c':Nat) (w:World) (h:dA M w s A n a) (h':dA M' w s' A' n' b) (vC:dF a=true) (hrb:dF b=true) (hM:M+M'≤400000):Calls prog 285 #[.agg #[bU s,bW A n c],.agg #[bU s',bW A' n' c']] w (NG (M+M') (oV 1 (Nat.gcd (dP a) (dP b))) 0 w):=by
 have hr:=fun W (h:dA M W s A n a)=>jN c h af;have hr':=fun W (h:dA M' W s' A' n' b)=>jN c' h af;rw[vC]at hr;rw[hrb]at hr';have H:=aa h;have H':=aa h';have HR:=aa hr;have R4:=aa hr';have hle:=h.le;have hle':=h'.le;obtain⟨p1,p2,p3,p4,p5,p6⟩:=iH h vC;obtain⟨q1,q2,q3,q4,q5,q6⟩:=iH h' hrb;have HK:=aa (fun W (h:jl W A ((jD a.dg).map nv))=>NH (n:=n) (jD a.dg) A c W p1 h af);have HP:=aa p3;have HQ:=aa q3;have hda:jD a.dg=gI (dP a):=kD p2;have hdb:jD b.dg=gI (dP b):=kD q2;have HDA:=aa hda;have HDB:=aa hdb;have QW:=aa p1;have HLB:=aa q1;clear hr hr' h h' vC hrb p1 p2 p3 p6 q1 q2 q3 q6 hda hdb;go_enter func285,ntmps285;go_wp2_with fail;refine(HR.o _ (((H.o.alloc _).alloc _).alloc _)).mono ?_;rintro e w1 ⟨rfl,hb1⟩;(have hz1:w.heap.size+1+1<w1:=by have:=hb1.size;simp at this;omega);have fL:Below w w w1:=((((aaf _ w).alloc aac _).alloc ai _).alloc aj _).trans (hb1.mono aj);obtain⟨hc1,jy⟩:=NF hb1;have e0:b_ w1 w 0 (bU s):=(by rw[hc1 (w.heap.size) 0 aj];simp[go_sem]);have e1:b_ w1 w 1 (bW A n c):=(by rw[hc1 (w.heap.size) 1 aj];simp[go_sem]);have e2:b_ w1 (w+1) 0 (bU s'):=(by rw[hc1 (w+1) 0 aj];simp[go_sem]);have e3:b_ w1 (w+1) 1 (bW A' n' c'):=(by rw[hc1 (w+1) 1 aj];simp[go_sem]);have e4:b_ w1 (w+1+1) 0 (bU 0):=(by rw[hc1 (w+1+1) 0 aj];simp[go_sem]);have e4f:w1.frozen? (bY (w+1+1) 0)=false:=(by rw[jy (w+1+1) 0 aj];simp[go_sem]);have e5:b_ w1 (w+1+1) 1 (bW none 0 0):=(by rw[hc1 (w+1+1) 1 aj];simp[go_sem]);have e5f:w1.frozen? (bY (w+1+1) 1)=false:=(by rw[jy (w+1+1) 1 aj];simp[go_sem]);have sj:=aa fL;clear hb1 hc1 jy fL;go_wp2_with fail;refine(R4.o _ (H'.o.bZ sj.o)).mono ?_;rintro e w2 ⟨rfl,hb2⟩;have hz2:w.heap.size+1+1<w2:=aaD hz1 hb2.size;have e0b:b_ w2 w 0 (bU s):=(hb2.cell (p:=bY w 0) (show w.heap.size<_ by omega)).trans e0;have e1b:b_ w2 w 1 (bW A n c):=(hb2.cell (p:=bY w 1) (show w.heap.size<_ by omega)).trans e1;have e2b:b_ w2 (w+1) 0 (bU s'):=(hb2.cell (p:=bY (w+1) 0) (show w.heap.size+1<_ by omega)).trans e2;have e3b:b_ w2 (w+1) 1 (bW A' n' c'):=(hb2.cell (p:=bY (w+1) 1) (show w.heap.size+1<_ by omega)).trans e3;have e4b:b_ w2 (w+1+1) 0 (bU 0):=(hb2.cell (p:=bY (w+1+1) 0) (show w.heap.size+1+1<_ by omega)).trans e4;have Wb:w2.frozen? (bY (w+1+1) 0)=false:=(hb2.frozen (p:=bY (w+1+1) 0) (show w.heap.size+1+1<_ by omega)).trans e4f;have e5b:b_ w2 (w+1+1) 1 (bW none 0 0):=(hb2.cell (p:=bY (w+1+1) 1) (show w.heap.size+1+1<_ by omega)).trans e5;have Wc:w2.frozen? (bY (w+1+1) 1)=false:=(hb2.frozen (p:=bY (w+1+1) 1) (show w.heap.size+1+1<_ by omega)).trans e5f;have dI:=aa (sj.o.trans (hb2.mono sj.o.size));clear hb2 sj e0 e1 e2 e3 e4 e5 e4f e5f;go_wp2_with fail;go_region_held3 (fun w'=>b_ w' w 0 (bU s)∧b_ w' w 1 (bW A n c)∧b_ w' (w+1) 0 (bU s')∧b_ w' (w+1) 1 (bW A' n' c')) (go_keep)
  (first
   |(go_at_call 306;(with_reducible refine(HK.o _ (HP.o.bZ dI.o).drew).mono ?_);rintro e w3 ⟨A3,c3,rfl,Ce,hl3,hf3,hb3⟩;have Zh:=aa hl3;have QV:=aa hf3;have zD:=aa Ce;have eE:=aa (dI.o.trans ((d_ hb3).mono dI.o.size));have Zi:b_ w3 w 0 (.int .i64 s):=((d_ hb3).cell (p:=⟨w,0,none⟩) (show w.heap.size<_ by omega)).trans e0b;have Zj:b_ w3 w 1 (.slice A n c):=((d_ hb3).cell (p:=⟨w,1,none⟩) (show w.heap.size<_ by omega)).trans e1b;have Zk:b_ w3 (w+1) 0 (Value.int .i64 s'):=((d_ hb3).cell (p:=⟨↑w+1,0,none⟩) (show w.heap.size+1<_ by omega)).trans e2b;have Zl:b_ w3 (w+1) 1 (Value.slice A' n' c'):=((d_ hb3).cell (p:=⟨↑w+1,1,none⟩) (show w.heap.size+1<_ by omega)).trans e3b;have Zm:b_ w3 (w+1+1) 0 (Value.int .i64 0):=((d_ hb3).cell (p:=⟨↑w+1+1,0,none⟩) (show w.heap.size+1+1<_ by omega)).trans e4b;have R5:w3.frozen? ⟨↑w+1+1,0,none⟩=false:=((d_ hb3).frozen (p:=⟨↑w+1+1,0,none⟩) (show w.heap.size+1+1<_ by omega)).trans Wb;have Zn:b_ w3 (w+1+1) 1 (Value.slice none 0 0):=((d_ hb3).cell (p:=⟨↑w+1+1,1,none⟩) (show w.heap.size+1+1<_ by omega)).trans e5b;have R6:w3.frozen? ⟨↑w+1+1,1,none⟩=false:=((d_ hb3).frozen (p:=⟨↑w+1+1,1,none⟩) (show w.heap.size+1+1<_ by omega)).trans Wc;have hz3:w.heap.size+1+1<w3:=aaD hz2 (d_ hb3).size;clear hb3 hf3 hl3 Ce))
 have hst:X3 (Nat.gcd (dP a) (dP b)) (M+M') w3 w3 (dP a) (dP b) (bW A3 n c3) (bW A' n' c'):=by
  have e1:(gI (dP a)).length=n:=(by rw[← HDA.o];exact QW.o);have e2:(gI (dP b)).length=n':=(by rw[← HDB.o];exact HLB.o);exact⟨rfl,by omega,by omega,⟨A3,c3,by rw[e1],by rw[← HDA.o];exact zD.o⟩,⟨A',c',by rw[e2],by rw[← HDB.o];exact HQ.o.bZ eE.o⟩,aaf _ _⟩
 go_wp2_with fail;clear e0b e1b e2b e3b e4b e5b Wb Wc Zi Zj Zk Zl hz2;go_loopg [6,7] (dP b) (fun g v6 v7 wr=>∃ x,X3 (Nat.gcd (dP a) (dP b)) (M+M') w3 wr x g v6 v7);(case atStart=>exact⟨dP a,hst⟩);clear hst;obtain⟨x,hgc,hlx,hly,⟨A6,c6,rfl,NJ⟩,⟨A7,c7,rfl,QX⟩,hbr⟩:=hrel;have HG:=aa hgc;have LC:=aa hbr;have X4:w.heap.size+1+1<wr:=aaD hz3 hbr.size;have k4:b_ wr (w+1+1) 0 (bU 0):=(hbr.cell (p:=bY (w+1+1) 0) (show w.heap.size+1+1<_ by omega)).trans Zm;have k5:b_ wr (w+1+1) 1 (bW none 0 0):=(hbr.cell (p:=bY (w+1+1) 1) (show w.heap.size+1+1<_ by omega)).trans Zn;have k4f:wr.frozen? (bY (w+1+1) 0)=false:=(hbr.frozen (p:=bY (w+1+1) 0) (show w.heap.size+1+1<_ by omega)).trans R5;have k5f:wr.frozen? (bY (w+1+1) 1)=false:=(hbr.frozen (p:=bY (w+1+1) 1) (show w.heap.size+1+1<_ by omega)).trans R6;clear hgc hbr;by_cases hy:gk=0
 (·have hl0:¬0<(gI gk).length:=(by rw[hy,gL];simp);have hgx:Nat.gcd (dP a) (dP b)=x:=(by rw[← HG.o,hy,Nat.gcd_zero_right]);have HGX:=aa hgx;have HC:=aa (NH (n:=(gI x).length) (gI x) A6 c6 wr rfl NJ af);clear hy hgx;go_wp2_with fail;refine HC.o.mono ?_;rintro e w4 ⟨A8,c8,rfl,hA8,hl8,hf8,hb4⟩;have gz:=aa hb4;have HF8:=aa hf8;have HS:=aa (oz (n:=(gI x).length) (M+M') 1 (gI x) A8 c8 w4 rfl (mM x) hA8 hl8 hlx af);clear hb4 hf8 HC;go_wp2_with fail;refine HS.o.mono ?_;rintro e w5 ⟨s5,A5,n5,c5,rfl,nS,O5,ew⟩;have dO:=aa (gz.o.trans (ew.mono gz.o.size));have o_:=aa (oy O5 HF8.o);have wm:=aa (zC true c5 w5 nS);clear ew O5 HS nS;go_wp2_with fail;refine wm.o.mono ?_;rintro e w6 ⟨s6,A9,n6,c9,rfl,hA9,Zs,eM⟩;have eo:=aa (dO.o.trans (eM.mono dO.o.size));have HF9:=aa (oy Zs o_.o);have Zt:=aa hA9;have m4:b_ w6 (w+1+1) 0 (bU 0):=(eo.o.cell (p:=bY (w+1+1) 0) X4).trans k4;have m5:b_ w6 (w+1+1) 1 (bW none 0 0):=(eo.o.cell (p:=bY (w+1+1) 1) X4).trans k5;have m4f:w6.frozen? (bY (w+1+1) 0)=false:=(eo.o.frozen (p:=bY (w+1+1) 0) X4).trans k4f;have m5f:w6.frozen? (bY (w+1+1) 1)=false:=(eo.o.frozen (p:=bY (w+1+1) 1) X4).trans k5f;clear eM Zs wm hA9 k4 k5 k4f k5f;go_wp2;have hf:dS wr A9:=HF9.o;(have hA:dA (M+M') w6 s6 A9 n6 (oV 1 (Nat.gcd (dP a) (dP b))):=by have:=Zt.o;rw[jW]at this;rw[HGX.o];exact this);have hbb:Below w w w6:=(eE.o.trans (LC.o.mono eE.o.size)).trans (eo.o.mono (aaC eE.o.size LC.o.size));exact bodyPost_ret (v:= .tuple #[.agg #[bU s6,bW A9 n6 c9],bU 0]) (by simp[results,results285,go_sem,m4,m5]) rfl ⟨s6,A9,n6,c9,rfl,(hA.cF hf X4 _).cF hf X4 _,hf.low (aaC eE.o.size LC.o.size),(hbb.setCell aj _).setCell aj _⟩);have hl0:0<(gI gk).length:=List.length_pos_iff.2 (fun e=>hy ((mR gk).1 e));have HD:=aa (div_n (c:=c6) (c':=c7) wr NJ QX hlx hly hM hy);have hyp:0<gk:=af;clear hy;go_wp2_with fail;refine HD.o.mono ?_;rintro e w4 ⟨q,r,rfl,hq,hr,hb4⟩;have HRR:=aa hr;have gz:=aa hb4;clear HD hq hr hb4;go_wp2;go_roundg (x % gk);(case measure=>exact Nat.mod_lt _ hyp);refine⟨gk,by rw[Rj];exact HG.o,hly,?_,⟨A7,c7,rfl,QX.bZ gz.o⟩,HRR.o.to0,LC.o.trans (gz.o.mono LC.o.size)⟩;exact aaC (j_ (Nat.le_of_lt (Nat.mod_lt _ hyp))) hly
def We (v:Nat) (w:World) (e:Ending) (w':World):Prop:=∃ (z:Int) (ok:Bool),e= .returned (.tuple #[bU z,.bool ok])∧(ok&&z==1)=(v==1)∧Below w w w'
theorem F4 (a b k:Nat) (ha:a<2 ^ k) (hk:k≤60) (hb:b*2 ^ k<18446744073709551616):bits .or .u64 (a:Int) ((b*2 ^ k:Nat):Int)=((a+b*2 ^ k:Nat):Int):=by
 have h1:(BitVec.ofInt 64 (a:Int)).toNat=a:=by
  rw[BitVec.ofInt_natCast,BitVec.toNat_ofNat];refine Nat.mod_eq_of_lt ?_;have:2 ^ k≤2 ^ 60:=Nat.pow_le_pow_right af hk;omega
 have h2:(BitVec.ofInt 64 ((b*2 ^ k:Nat):Int)).toNat=b*2 ^ k:=by
  rw[BitVec.ofInt_natCast,BitVec.toNat_ofNat];exact Nat.mod_eq_of_lt hb
 show IntKind.u64.wrap ((BitVec.ofInt 64 (a:Int)|||BitVec.ofInt 64 ((b*2 ^ k:Nat):Int)).toNat:Int)=_;rw[BitVec.toNat_or,h1,h2,Nat.or_comm, ← Nat.shiftLeft_eq, ← Nat.shiftLeft_add_eq_or_of_lt ha,Nat.shiftLeft_eq];have h3:a+b*2 ^ k<18446744073709551616:=by
  have h4:b*2 ^ k+2 ^ k≤18446744073709551616:=by
   (have hd:18446744073709551616=2 ^ (64 - k)*2 ^ k:=by rw[← Nat.pow_add,show 64 - k+k=64 by omega]);rw[hd]at hb ⊢;have:=Nat.lt_of_mul_lt_mul_right hb;have h5:=aaF (2 ^ k) (show b+1≤2 ^ (64 - k)from this);rw[aaA,Nat.one_mul]at h5;exact h5
  omega
 rw[Nat.add_comm];rw[IntKind.wrap_u64];omega
theorem R7 (u:Nat) (h:u<9223372036854775808) (W:World):(convert 252 3 (.int .u64 (u:Int))).run prog W= .ok (bU (u:Int)) W:=by
 simp[go_sem];exact fN af
theorem Wf {M n:Nat} {A:Option Addr} {b:iO} (c:Nat) (w:World) (h:dA M w 1 A n b) (hr:dF b=true) (hM:M≤1000000):Calls prog 311 #[.agg #[bU 1,bW A n c]] w (We (dP b) w):=by
 have hri:=fun W (h:dA M W 1 A n b)=>jN c h hM;rw[hr]at hri;have HR:=aa hri;have H:=aa h;have hle:=h.le;obtain⟨p1,p2,p3,p4,p5,p6⟩:=iH h hr;have hbv:dP b=val (jD b.dg):=rfl;rw[hbv];generalize jD b.dg=xs at*;clear hri h hr p4 p5 p6 hbv;have HL:=aa p1;have HP:=aa p3;by_cases hn4:4<n
 ·have HV:=aa (show(val xs==1)=false by
   have:=mU p2 (fun e=>by rw[e]at p1;simp at p1;omega);have h3:1048576 ^ 4≤1048576 ^ (xs.length - 1):=Nat.pow_le_pow_right af af;rw[beq_eq_false_iff_ne];intro e;rw[e]at this;omega)
  clear p1 p2 p3;go_enter func311,ntmps311;go_wp2_with fail;refine(HR.o _ (H.o.alloc _)).mono ?_;rintro e w1 ⟨rfl,hb1⟩;have fL:Below w w w1:=((aaf _ w).alloc aac _).trans (hb1.mono ai);obtain⟨hc1,jy⟩:=NF hb1;(have hz1:w.heap.size<w1:=by have:=hb1.size;simp at this;omega);have e1:b_ w1 w 1 (bW A n c):=(by rw[hc1 (w.heap.size) 1 ai];simp);clear hb1 hc1 jy;go_wp2;go_ret2;exact⟨0,false,rfl,by rw[HV.o];rfl,fL⟩
 have hcan:=p2;have hd:=p2.1;clear p3;go_enter func311,ntmps311;go_wp2_with fail;refine(HR.o _ (H.o.alloc _)).mono ?_;rintro e w1 ⟨rfl,hb1⟩;have fL:Below w w w1:=((aaf _ w).alloc aac _).trans (hb1.mono ai);obtain⟨hc1,jy⟩:=NF hb1;(have hz1:w.heap.size<w1:=by have:=hb1.size;simp at this;omega);have e0:b_ w1 w 0 (bU 1):=(by rw[hc1 (w.heap.size) 0 ai];simp);have e1:b_ w1 w 1 (bW A n c):=(by rw[hc1 (w.heap.size) 1 ai];simp);have HB:=aa fL;have Vn:=aa (HP.o.bZ fL);clear hb1 hc1 jy fL p1 p2 hcan;go_wp2;go_loop [4,19] (fun t r=>∃ i u:Nat,i≤n∧t= .int .u64 (u:Int)∧r=bU (i:Int)∧u<1048576 ^ i∧(i=4→u<10376293541461622784)∧Hid (val (xs.take i)=u)) (fun _ r=>n - (intOf r).toNat);(case atStart=>exact⟨0,0,aaG _,rfl,rfl,by simp,fun h=>by omega,by show val (xs.take 0)=0;simp[val]⟩);obtain⟨i,u,hi,rfl,rfl,hu,hu4,HU⟩:=hrel;by_cases hlt:i<n
 ·obtain⟨b1,off1,d,rfl,B_,hcell,Vg,HD⟩:=Vn.o.dg hd (k:=i) (by have:=HL.o;omega);(have hlx:n≤xs.length:=by have:=HL.o;omega);clear hu4;by_cases h38:i=3∧8<d
  ·obtain⟨rfl,h8⟩:=h38;have HV:=aa (show(val xs==1)=false by
    rw[beq_eq_false_iff_ne];intro e;have h1:=kP xs 3 af;have h2:=mQ xs 3 af;rw[HD.o]at h2;rw[h2]at h1;omega)
   have hd8:decide ((8:Int)<(d:Int))=true:=aq;go_wp2;go_ret2;exact⟨0,false,rfl,by rw[HV.o];rfl,HB.o⟩
  rcases(show i=0∨i=1∨i=2∨i=3 by omega)with rfl|rfl|rfl|rfl
  (·have HN:=aa (show val (xs.take (0+1))=u+d*1 by rw[eN xs 0 af,HD.o,HU.o]);simp only[Nat.add_zero]at hcell;have Rz:(((0:Nat):Int)==3)=false:=ak;have A_:u+d*1<1048576:=(by simp at hu;omega);(have Vh:bits .or .u64 (u:Int) (d:Int)=((u+d:Nat):Int):=by have:=F4 u d 0 (by simpa using hu) af af;simpa using this);go_wp2;go_round;exact⟨0+1,u+d*1,by omega,int_eq af,rfl,by(have:=A_;simp;omega),fun h=>by(first|omega|exact A_),HN.o⟩;simp[intOf];omega)
  (·have HN:=aa (show val (xs.take (1+1))=u+d*1048576 by rw[eN xs 1 af,HD.o,HU.o]);have Rz:(((1:Nat):Int)==3)=false:=ak;have A_:u+d*1048576<1099511627776:=(by simp at hu;omega);(have Vh:bits .or .u64 (u:Int) ((d:Int)*1048576)=((u+d*1048576:Nat):Int):=by have:=F4 u d 20 (by simpa using hu) af af;simpa using this);go_wp2;go_round;exact⟨1+1,u+d*1048576,by omega,int_eq af,rfl,by(have:=A_;simp;omega),fun h=>by(first|omega|exact A_),HN.o⟩;simp[intOf];omega)
  (·have HN:=aa (show val (xs.take (2+1))=u+d*1099511627776 by rw[eN xs 2 af,HD.o,HU.o]);have Rz:(((2:Nat):Int)==3)=false:=ak;have A_:u+d*1099511627776<1152921504606846976:=(by simp at hu;omega);(have Vh:bits .or .u64 (u:Int) ((d:Int)*1099511627776)=((u+d*1099511627776:Nat):Int):=by have:=F4 u d 40 (by simpa using hu) af af;simpa using this);go_wp2;go_round;exact⟨2+1,u+d*1099511627776,by omega,int_eq af,rfl,by(have:=A_;simp;omega),fun h=>by(first|omega|exact A_),HN.o⟩;simp[intOf];omega);have HN:=aa (show val (xs.take (3+1))=u+d*1152921504606846976 by rw[eN xs 3 af,HD.o,HU.o]);have hd8:decide ((8:Int)<(d:Int))=false:=aq;have A_:u+d*1152921504606846976<10376293541461622784:=(by simp at hu;omega);(have Vh:bits .or .u64 (u:Int) ((d:Int)*1152921504606846976)=((u+d*1152921504606846976:Nat):Int):=by have:=F4 u d 60 (by simpa using hu) af af;simpa using this);go_wp2;go_round;exact⟨3+1,u+d*1152921504606846976,by omega,int_eq af,rfl,by(have:=A_;simp;omega),fun h=>by(first|omega|exact A_),HN.o⟩;simp[intOf];omega
 (obtain rfl:i=n:=by omega);have hxu:xs.take i=xs:=aax (by have:=HL.o;omega);have HV:=aa (show val xs=u by have:=HU.o;rwa [hxu]at this);clear hxu;have A_:u<18446744073709551616:=by
  rcases(show i=0∨i=1∨i=2∨i=3∨i=4 by omega)with h|h|h|h|h
  (·subst h;simp at hu;omega)
  (·subst h;simp at hu;omega)
  (·subst h;simp at hu;omega)
  (·subst h;simp at hu;omega);have:=hu4 h;omega
 clear hu hu4;by_cases h63:u<9223372036854775808
 ·have HE:=aa (show(true&&((u:Int)==1))=(val xs==1) by
   rw[HV.o,Bool.true_and,Bool.eq_iff_iff];simp;omega)
  have hls:decide ((u:Int)<9223372036854775808)=true:=aq;have hcv:=R7 u h63;have hcw:IntKind.i64.wrap (u:Int)=(u:Int):=fN af;clear h63 A_;go_upto_region 13 with(fail);generalize (9223372036854775808:Int)=K at hls ⊢;go_wp2;go_ret2;exact⟨u,true,rfl,HE.o,HB.o⟩
 have HE:=aa (show(val xs==1)=false by
  rw[HV.o,beq_eq_false_iff_ne];omega)
 have hls:decide ((u:Int)<9223372036854775808)=false:=aq;clear h63 A_;go_upto_region 13 with(fail);generalize (9223372036854775808:Int)=K at hls ⊢;go_wp2;go_ret2;exact⟨0,false,rfl,by rw[HE.o];rfl,HB.o⟩
section
theorem R8 {M n G:Nat} {s:Int} {A:Option Addr} (c:Nat) (w:World) (h:dA M w s A n (oV 1 G)) (h0:G≠0) (hM:M≤1000000):Calls prog 287 #[.agg #[bU s,bW A n c]] w (Ny (G==1) w):=by
 have hs:s=1:=(by rw[← h.1];unfold oV;rw[if_neg h0]);subst hs;have hi:=fun W (h:dA M W 1 A n (oV 1 G))=>Wf c W h (l_ (.inl rfl)) hM;rw[vM]at hi;have HI:=aa hi;have H:=aa h;clear hi h h0;go_enter func287,ntmps287;go_wp2_with fail;refine(HI.o _ (H.o.alloc _)).mono ?_;rintro e w1 ⟨z,ok,rfl,hok,hb1⟩;have fL:Below w w w1:=((aaf _ w).alloc aac _).trans (hb1.mono ai);have HO:=aa hok;clear hb1 hok;cases ok with
 |true=>
  go_wp2;go_ret;exact⟨cU (by have:=HO.o;simpa using this),fL⟩
 |false=>
  go_wp2;go_ret;exact⟨cU (by have:=HO.o;simpa using this),fL⟩
def dN (M:Nat) (w:World) (s:Int) (A:Option Addr) (n:Nat) (t:Int) (B:Option Addr) (m:Nat) (f:eG):Prop:=dA M w s A n f.p∧dA M w t B m f.q
section
variable {M n m:Nat} {w w':World} {s t:Int} {A B:Option Addr} {f:eG}
theorem dN.bZ (h:dN M w s A n t B m f) (hb:Below w w w'):dN M w' s A n t B m f:=⟨h.1.bZ hb,h.2.bZ hb⟩
theorem dN.alloc (h:dN M w s A n t B m f) (o:Obj):dN M (w.alloc o) s A n t B m f:=⟨h.1.alloc o,h.2.alloc o⟩
theorem dN.drew (h:dN M w s A n t B m f):dN M w.drew s A n t B m f:=h
theorem dN.drewN (h:dN M w s A n t B m f) (k:Nat):dN M (w.drewN k) s A n t B m f:=h
end
theorem qP {M n m:Nat} {s t:Int} {A B:Option Addr} {f:eG} (c d:Nat) (w:World) (h:dN M w s A n t B m f) (hM:M+M≤400000):Calls prog 251 #[.agg #[bU s,bW A n c,bU t,bW B m d]] w (Ny (dK f) w):=by
 have hp:=fun W (h:dA M W s A n f.p)=>jN c h af;have hq:=fun W (h:dA M W t B m f.q)=>jN d h af;have H:=aa h;have ht:=h.2.1;cases DT:dF f.p with
 |false=>
  have HN:=aa (show dK f=false by simp[dK,DT]);rw[DT]at hp;have HP:=aa hp;clear hp hq DT h ht;go_enter func251,ntmps251;go_wp2_with fail;refine(HP.o _ (H.o.1.alloc _)).mono ?_;rintro e w1 ⟨rfl,hb1⟩;have fL:Below w w w1:=((aaf _ w).alloc aac _).trans (hb1.mono ai);clear hb1;go_wp2;go_ret;exact⟨cU HN.o.symm,fL⟩
 |true=>
  cases NK:dF f.q with
  |false=>
   have HN:=aa (show dK f=false by simp[dK,NK]);rw[DT]at hp;rw[NK]at hq;have HP:=aa hp;have HQ:=aa hq;clear hp hq DT NK h ht;go_enter func251,ntmps251;go_wp2_with fail;refine(HP.o _ (H.o.1.alloc _)).mono ?_;rintro e w1 ⟨rfl,hb1⟩;have fL:Below w w w1:=((aaf _ w).alloc aac _).trans (hb1.mono ai);have e2:b_ w1 w 2 (bU t):=(hb1.cell (p:=bY w 2) ai).trans ai;have e3:b_ w1 w 3 (bW B m d):=(hb1.cell (p:=bY w 3) ai).trans ai;have HB:=aa fL;clear hb1 fL;go_wp2_with fail;refine(HQ.o _ (H.o.2.bZ HB.o)).mono ?_;rintro e w2 ⟨rfl,hb2⟩;have fL:Below w w w2:=HB.o.trans (hb2.mono HB.o.size);clear hb2;go_wp2;go_ret;exact⟨cU HN.o.symm,fL⟩
  |true=>
   rw[DT]at hp;rw[NK]at hq;have HP:=aa hp;have HQ:=aa hq;have HG:=aa (fun W (k:dN M W s A n t B m f)=>NI c d W k.1 k.2 DT NK hM);by_cases ht1:t=1
   ·have h0:Nat.gcd (dP f.p) (dP f.q)≠0:=by
     intro e;have:=Nat.eq_zero_of_gcd_eq_zero_right e;have:=(kQ NK).1 this;omega
    have HN:=aa (show dK f=(Nat.gcd (dP f.p) (dP f.q)==1) by simp[dK,DT,NK,ht,ht1]);have hne:(t != 1)=false:=(by simpa using ht1);generalize Nat.gcd (dP f.p) (dP f.q)=G at*;clear hp hq DT NK h ht ht1;go_enter func251,ntmps251;go_wp2_with fail;refine(HP.o _ (H.o.1.alloc _)).mono ?_;rintro e w1 ⟨rfl,hb1⟩;have fL:Below w w w1:=((aaf _ w).alloc aac _).trans (hb1.mono ai);(have hz1:w.heap.size<w1:=by have:=hb1.size;simp at this;omega);have e0:b_ w1 w 0 (bU s):=(hb1.cell (p:=bY w 0) ai).trans ai;have e1:b_ w1 w 1 (bW A n c):=(hb1.cell (p:=bY w 1) ai).trans ai;have e2:b_ w1 w 2 (bU t):=(hb1.cell (p:=bY w 2) ai).trans ai;have e3:b_ w1 w 3 (bW B m d):=(hb1.cell (p:=bY w 3) ai).trans ai;have HB:=aa fL;clear hb1 fL;go_wp2_with fail;refine(HQ.o _ (H.o.2.bZ HB.o)).mono ?_;rintro e w2 ⟨rfl,hb2⟩;have k0:=(hb2.cell (p:=bY w 0) hz1).trans e0;have k1:=(hb2.cell (p:=bY w 1) hz1).trans e1;have k2:=(hb2.cell (p:=bY w 2) hz1).trans e2;have k3:=(hb2.cell (p:=bY w 3) hz1).trans e3;have dI:=aa (HB.o.trans (hb2.mono HB.o.size));clear hb2 e0 e1 e2 e3;go_wp2_with fail;refine(HG.o _ (H.o.bZ dI.o)).mono ?_;rintro e w3 ⟨s3,A3,n3,c3,rfl,Ce,hf3,hb3⟩;have eE:=aa (dI.o.trans (hb3.mono dI.o.size));have zD:=aa Ce;clear hb3 hf3 Ce k0 k1 k2 k3;go_wp2_with fail;refine(R8 c3 _ (zD.o.alloc _) h0 af).mono ?_;rintro e w4 ⟨rfl,hb4⟩;have fL:Below w w w4:=(eE.o.alloc eE.o.size _).trans (hb4.mono (by have:=eE.o.size;simp<;>omega));clear hb4;go_wp2;go_ret;exact⟨cU HN.o.symm,fL⟩
   have HN:=aa (show dK f=false by simp[dK,ht,ht1]);have hne:(t != 1)=true:=(by simpa using ht1);clear hp hq DT NK h ht ht1;go_enter func251,ntmps251;go_wp2_with fail;refine(HP.o _ (H.o.1.alloc _)).mono ?_;rintro e w1 ⟨rfl,hb1⟩;have fL:Below w w w1:=((aaf _ w).alloc aac _).trans (hb1.mono ai);(have hz1:w.heap.size<w1:=by have:=hb1.size;simp at this;omega);have e2:b_ w1 w 2 (bU t):=(hb1.cell (p:=bY w 2) ai).trans ai;have e3:b_ w1 w 3 (bW B m d):=(hb1.cell (p:=bY w 3) ai).trans ai;have HB:=aa fL;clear hb1 fL;go_wp2_with fail;refine(HQ.o _ (H.o.2.bZ HB.o)).mono ?_;rintro e w2 ⟨rfl,hb2⟩;have k2:=(hb2.cell (p:=bY w 2) hz1).trans e2;have fL:Below w w w2:=HB.o.trans (hb2.mono HB.o.size);clear hb2 e2 e3;go_wp2;go_ret;exact⟨cU HN.o.symm,fL⟩
end
theorem qQ {M M' n n':Nat} {s s':Int} {A A':Option Addr} {a b:iO} (c c':Nat) (w:World) (h:dA M w s A n a) (h':dA M' w s' A' n' b) (vC:dF a=true) (hrb:dF b=true) (hM:M+M'≤1000000):Calls prog 252 #[.agg #[bU s,bW A n c],.agg #[bU s',bW A' n' c']] w (R2 (M+M') (rM a b) w):=by
 have HM:=aa (fun W (k:dA M W s A n a) (k':dA M' W s' A' n' b)=>R3 c c' W k k' vC hrb hM);have H:=aa h;have H':=aa h';clear h h' vC hrb;go_enter func252,ntmps252;go_wp2_with fail;refine(HM.o _ (((H.o.alloc _).alloc _).alloc _) (((H'.o.alloc _).alloc _).alloc _)).mono ?_;rintro e w1 ⟨s3,A3,n3,c3,rfl,Ce,hf3,hb1⟩;have fL:Below w w w1:=((((aaf _ w).alloc aac _).alloc aj _).alloc aj _).trans (hb1.mono aj);(have hz1:w.heap.size+1+1<w1:=by have:=hb1.size;simp at this;omega);have e20:b_ w1 (w+1+1) 0 (bU 0):=(hb1.cell (p:=bY (w+1+1) 0) aj).trans ax;have e20f:w1.frozen? (bY (w+1+1) 0)=false:=(hb1.frozen (p:=bY (w+1+1) 0) aj).trans ax;have e21:b_ w1 (w+1+1) 1 (bW none 0 0):=(hb1.cell (p:=bY (w+1+1) 1) aj).trans ax;have e21f:w1.frozen? (bY (w+1+1) 1)=false:=(hb1.frozen (p:=bY (w+1+1) 1) aj).trans ax;have HB:=aa fL;have zD:=aa Ce;have hf:dS (w+1+1+1) A3:=hf3.low ai;have QV:=aa hf;clear hb1 fL Ce hf3 hf;have ew:=(HB.o.setCell (p:=bY (w+1+1) 0) (show w.heap.size≤w.heap.size+1+1 by omega) (bU s3)).setCell (p:=bY (w+1+1) 1) (show w.heap.size≤w.heap.size+1+1 by omega) (bW A3 n3 c3);have dO:=aa (ew.alloc ew.size (.cells #[bU s3,bW A3 n3 c3] 161));clear ew;go_wp2;exact bodyPost_ret (v:= .agg #[bU s3,bW A3 n3 c3]) (by simp[results,results252,go_sem,e20,e21,hz1]) rfl ⟨s3,A3,n3,c3,rfl,((zD.o.cF QV.o af _).cF QV.o af _).alloc _,QV.o.low af,dO.o⟩
end
section
open Go Go.RowKit Go.Proofs
section
theorem Cf (w:World) (cs:List Value) (t:TypeId) (n k:Nat) (hk:cs.length=n*k):Reads (w.alloc (.cells cs.toArray t)) (w+1) k (bY w 0) n cs:=by
 refine⟨hk,fun _=>⟨_,rfl,Nat.lt_succ_self _,fun j u hu=>?_⟩⟩;have e:(w.alloc (.cells cs.toArray t)).cell? (bY w j)=some u:=by
  unfold World.cell?;rw[show(w.alloc (.cells cs.toArray t)).heap[(bY w j:Addr).block]? =_ from heap_alloc_new w _];simpa using hu
 unfold Addr.add;split
 (·(next h0=>subst h0;exact e));simpa using e
section
variable {α:Type} {R:Rel α} {w w' W:World} {S S':Nat→Prop} {v v':Value} {xs ys:List α} {B T:Nat}
theorem dM.qK:dM R T B w S cD []:=⟨[],rfl,⟨by simp,.inl ⟨rfl,rfl⟩⟩,fun cs h=>by simp at h,fun j cs x h=>by simp at h⟩
theorem dM.empty (hB:B≤w.heap.size) (t:Nat) (ht:t=T):dM R T B (w.alloc (.cells #[] t)) S (bW (bY w 0) 0 0) []:=by
 subst ht;exact⟨[],rfl,⟨by simp,.inr ⟨w.heap.size,0,#[],rfl,hB,heap_alloc_new w _,aaB _,aaG _,by simp,by simp⟩⟩,fun cs h=>by simp at h,fun j cs x h=>by simp at h⟩
theorem dM.lt (h:dM R T B w S v xs) (g:Nat) (hg:v.ownBlock=some g):B≤g∧g<w.heap.size:=by
 obtain⟨css,h1,h2,_⟩:=h;exact tN h2 g hg
theorem dM.bZ (h:dM R T B w S v xs) (hb:Below w w w'):dM R T B w' S v xs:=by
 obtain⟨css,h1,h2,h3,h4⟩:=h;exact⟨css,h1,ot h2 hb,h3,fun j cs x hc hx=>R.keep (h4 j cs x hc hx) (cB.cA hb)⟩
theorem dM.mono (h:dM R T B w S v xs) (hs:∀ b,b<w.heap.size→S b→S' b):dM R T B w S' v xs:=by
 obtain⟨css,h1,h2,h3,h4⟩:=h;exact⟨css,h1,h2,h3,fun j cs x hc hx=>R.mono (h4 j cs x hc hx) fun b hb q=>⟨hs b hb q.1,q.2⟩⟩
theorem dM.slice (h:dM R T B w S v xs):∃ A c,v=bW A xs c∧xs.length≤c∧c≤maxLen:=by
 obtain⟨css,h1,h2,_⟩:=h;exact iL h2
theorem sH {k:Nat}:∀ {css:List (List Value)},(∀ cs∈css,cs.length=k)→css.flatten.length=css.length*k
 |[],_=>by simp
 |a :: l,h=>by
  have ih:=sH (css:=l) (fun cs hcs=>h cs (List.mem_cons_of_mem _ hcs));rw[List.flatten_cons,aao,ih,h a ai,List.length_cons,aaA];omega
theorem mC {k:Nat}:∀ {css:List (List Value)} (_:∀ cs∈css,cs.length=k) (j i:Nat) (cs:List Value) (v:Value),css[j]? =some cs→cs[i]? =some v→css.flatten[j*k+i]? =some v
 |[],_,j,i,cs,v,h,_=>by simp at h
 |a :: l,hk,0,i,cs,v,h,hv=>by
  simp at h;subst h;rw[List.flatten_cons,Nat.zero_mul,Nat.zero_add,List.getElem?_append_left (List.getElem?_eq_some_iff.1 hv).1];exact hv
 |a :: l,hk,j+1,i,cs,v,h,hv=>by
  have ih:=mC (css:=l) (fun cs hcs=>hk cs (List.mem_cons_of_mem _ hcs)) j i cs v aK hv;have ha:=hk a ai;rw[List.flatten_cons,List.getElem?_append_right (by rw[ha,aaA];omega),ha,aaA];rw[show j*k+1*k+i - k=j*k+i by omega];exact ih
theorem dM.sq {A:Option Addr} {n c:Nat} (h:dM R T B w S (bW A n c) xs) (hs:∀ b,b<w.heap.size→B≤b→S b):Sq R w S A xs:=by
 obtain⟨A',c',e,_⟩:=h.slice;injection e with e1 e2 e3;subst e1 e2;obtain⟨css,h1,h2,h3,h4⟩:=h;refine⟨css,h1,fun hn=>?_,fun j cs x hc hx=>R.mono (h4 j cs x hc hx) fun b _ q=>q.1⟩;have hl:0<xs.length:=by
  rw[← h1];cases css with
  |nil=>exact absurd rfl hn
  |cons x l=>simp
 obtain⟨g,cap',hv,hg1,hg2⟩:=h2.form hl;have hA:A=bY g 0:=(by injection hv);subst hA;refine⟨g,0,rfl,hs g hg2 hg1,hg2,fun j x hx i v hv'=>?_⟩;have:=h2.cells (g:=g) rfl (j*R.k+i) v (mC h3 j i x v hx hv');rw[Addr.add_lit]at this;simpa [Nat.add_assoc]using this
theorem dM.more {css:List (List Value)} {news:List α} {QY:List (List Value)} {nv:List Value} {n:Nat} (h1:css.length=xs.length) (h3:∀ cs∈css,cs.length=R.k) (h4:∀ (j:Nat) cs x,css[j]? =some cs→xs[j]? =some x→R.is W (fun b=>S b∧some b≠v.ownBlock) cs x) (Vf:QY.length=news.length) (hn:∀ (j:Nat) cs x,QY[j]? =some cs→news[j]? =some x→R.is W (fun b=>S b∧some b≠v.ownBlock) cs x) (hnv:nv=QY.flatten) (hnn:n=news.length) (ho:w'.ownsRow B T R.k v' (xs.length+n) (css.flatten++nv)) (hg:W.grownBy w' v.ownBlock) (hat:v'.ownBlock=v.ownBlock∨v'.ownBlock=some W.heap.size):dM R T B w' S v' (xs++news):=by
 subst hnv hnn;have hnk:∀ cs∈QY,cs.length=R.k:=fun cs hcs=>by
  obtain⟨j,hj,rfl⟩:=List.getElem_of_mem hcs;exact R.len (hn j _ _ (List.getElem?_eq_getElem hj) (List.getElem?_eq_getElem af))
 refine⟨css++QY,by simp[h1,Vf],by simpa using ho,fun cs hcs=>?_,fun j cs x hc hx=>?_⟩
 ·rcases List.mem_append.1 hcs with h|h
  (·exact h3 cs h);exact hnk cs h
 have hx':R.is W (fun b=>S b∧some b≠v.ownBlock) cs x:=by
  rcases Nat.lt_or_ge j xs.length with h|h
  (·rw[List.getElem?_append_left af]at hc;rw[List.getElem?_append_left h]at hx;exact h4 j cs x hc hx);rw[List.getElem?_append_right af]at hc;rw[List.getElem?_append_right h]at hx;rw[h1]at hc;exact hn _ cs x hc hx
 have h1:R.is W (fun b=>(S b∧some b≠v.ownBlock)∧some b≠v'.ownBlock) cs x:=R.mono hx' fun b hb q=>⟨q,by
  rcases hat with e|e
  (·rw[e];exact q.2);rw[e];intro e2;injection e2 with e2;omega⟩
 exact R.mono (R.keep h1 (cB.fB hg fun b q=>q.1.2)) fun b _ q=>⟨q.1.1,q.2⟩
end
end
end
open Go Go.RowKit Bg Go.Proofs
def Cg (k:Nat):Nat:=if k=0 then 9223372036854775808 else if k=1 then 8796093022208 else if k=2 then 8388608 else if k=3 then 8 else 1
theorem LD {k u:Nat} (hk:k≤4) (hu:u<Cg k) (h0:0<u):k+1≤4∧u / 1048576<Cg (k+1):=by
 (have:k=0∨k=1∨k=2∨k=3∨k=4:=by omega);rcases this with rfl|rfl|rfl|rfl|rfl<;>simp[Cg]at hu ⊢ <;>omega
theorem R9 {k u:Nat} (hu:u<Cg k):u<9223372036854775808:=by
 unfold Cg at hu;split at hu
 (·exact hu);split at hu
 (·omega);split at hu
 (·omega);split at hu<;>omega
theorem R_ (n:Nat) (h:n<9223372036854775808) (W:World):(convert 3 252 (bU (n:Int))).run prog W= .ok (.int .u64 (n:Int)) W:=by
 have e:IntKind.u64.wrap (n:Int)=(n:Int):=(by rw[IntKind.wrap_u64];omega);simp[convert,run_underlying underlying3,run_underlying underlying252,go_sem,e]
def OfAt (n B:Nat) (w wr:World) (v:Value) (u:Nat):Prop:=
 ∃ xs:List Nat,xs.length≤4∧gH xs∧val xs+1048576 ^ xs.length*u=n∧u<Cg xs.length∧wr.ownsRow B 3 1 v xs.length (xs.map nv)∧Below w w wr∧w.heap.size<B∧B≤wr.heap.size∧
  wr.heap[w.heap.size]? =some (.cells #[bU 0,cD] 161 (0,0))
theorem LF (u:Nat):bits .and .u64 (u:Int) 1048575=((u % 1048576:Nat):Int):=by
 show IntKind.u64.wrap ((BitVec.ofInt 64 (u:Int)&&& BitVec.ofInt 64 1048575).toNat:Int)=_;have e:(BitVec.ofInt 64 1048575).toNat=2 ^ 20 - 1:=ak;rw[BitVec.toNat_and,e,Nat.and_two_pow_sub_one_eq_mod,toNat_ofInt,IntKind.wrap_u64];omega
theorem Sa (u:Nat) (h:u<9223372036854775808) (W:World):(convert 252 3 (.int .u64 (u:Int))).run prog W= .ok (bU (u:Int)) W:=by
 simp[go_sem];exact fN af
theorem F5 (n:Nat) (hn:n<9223372036854775808) (w:World):Calls prog 204 #[bU (n:Int)] w (R2 4 (oV 1 n) w):=by
 have hcv:=fun W=>R_ n hn W;have hneg:decide ((n:Int)<0)=false:=ai;go_enter func204,ntmps204;go_wp2;go_loopg [4,5] n (fun u v4 v5 wr=>v4= .int .u64 (u:Int)∧Hid (OfAt n (w+1) w wr v5 u));(case atStart=>refine⟨rfl,[],by simp,gH.nil,by simp[val],by simpa [Cg]using hn,⟨by simp,.inl ⟨rfl,rfl⟩⟩,cS _,by omega,by simp,heap_alloc_new w _⟩);obtain⟨rfl,HO⟩:=hrel;obtain⟨xs,hl4,Sb,hval,Wh,hown,fL,hwB,hBr,hblk⟩:=HO.o;have hlt:=R9 Wh;by_cases h0:gk=0
 ·subst h0;have hxv:val xs=n:=(by simpa using hval);have HXV:=aa hxv;have si:∃ A c,u5=bW A xs c:=by
   obtain⟨A,c,e,_⟩:=iL hown;exact⟨A,c,e⟩
  obtain⟨A,c,rfl⟩:=si;have ha:=NC hown;have HSG:=aa (oz (n:=xs.length) 4 1 xs A c wr rfl Sb ha.1 ha.2.1 hl4 af);have hfr:dS (w+1) A:=ha.2.2;have Sc:=aa hfr;have VT:=aa hblk;have sj:=aa fL;clear hval hxv Sb hown hblk fL hcv hneg Wh HO ha hfr;go_wp2_with fail;refine HSG.o.mono ?_;rintro e w5 ⟨s5,A5,n5,c5,rfl,nS,O5,ew⟩;have dO:=aa (sj.o.trans (ew.mono sj.o.size));have o_:=aa (oy O5 Sc.o);have xX:=aa nS;have KC:=aa (show cN w5 w 161 [bU 0,cD]from cN.bZ (t:=161) (cs:=[bU 0,cD]) VT.o ew af);have m4:b_ w5 w 0 (bU 0):=KC.o.cell 0;have m5:b_ w5 w 1 (bW none 0 0):=KC.o.cell 1;have m4f:w5.frozen? (bY w 0)=false:=KC.o.frozen 0;have m5f:w5.frozen? (bY w 1)=false:=KC.o.frozen 1;clear ew O5 nS;go_wp2;have hf:dS (w+1) A5:=o_.o;(have hA:dA 4 w5 s5 A5 n5 (oV 1 n):=by have:=xX.o;rw[HXV.o]at this;exact this);exact bodyPost_ret (v:= .agg #[bU s5,bW A5 n5 c5]) (by simp[results,results204,go_sem,m4,m5]) rfl ⟨s5,A5,n5,c5,rfl,(hA.cF hf af _).cF hf af _,hf.low af,(dO.o.setCell (p:=bY w 0) aac _).setCell (p:=bY w 1) aac _⟩
 have hst:=LD hl4 Wh af;have hgt:decide ((0:Int)<(gk:Int))=true:=aq;have hand:=LF gk;have hcd:=fun W=>Sa (gk % 1048576) af W;obtain⟨i0,AY,hz0,hz1,hz2⟩:=info_parts NB;have HV:=aa hval;have HDX:=aa Sb;have HOW:=aa hown;have VT:=aa hblk;have sj:=aa fL;have HOWA:=aa (ot hown ((aaf _ wr).alloc aac (.cells #[bU ((gk:Int) % 1048576)] 3)));have gj:=fun g hg=>(tN hown g hg).1;have Vo:=aa gj;clear hval Sb hown hblk fL hcv hneg Wh HO gj;go_wp2_with (at_builtin;refine fW _ rfl (.tmp 16) (.tmp 20) _ rfl (w+1) 3 i0 _ 1 8 underlying38 AY hz0 hz1 hz2 rfl af _ xs.length (xs.map nv) rfl HOWA.o (wr+1) (bY wr 0) 1 1 [bU ((gk:Int) % 1048576)] rfl ?c2 ?c6 ?c3 ?c4 ?c5 ?_);(case c2=>simpa using Cf wr [bU ((gk:Int) % 1048576)] 3 1 1 rfl);(case c6=>intro u hu;simp at hu;subst hu;rfl);(case c3=>unfold maxLen;omega);(case c4=>omega);(case c5=>simp;omega);intro v9 w9 pg xZ x7;have HO9:=aa (show OfAt n (w+1) w w9 v9 (gk / 1048576)from by
  refine⟨xs++[gk % 1048576],by simpa using hst.1,HDX.o.app (gH.cons af gH.nil),?_,by simpa using hst.2,by simpa [nv]using pg,?_,by omega,?_,?_⟩
  (·rw[mK];have:=HV.o;simp only[val,aao,List.length_cons,List.length_nil,Nat.zero_add,Nat.pow_succ];have e:=Nat.div_add_mod gk 1048576;rw[← this,Nat.add_assoc,Nat.mul_assoc, ← Nat.mul_add];congr 2;omega)
  (·exact(sj.o.alloc af _).grown xZ aq (fun g hg=>by have:=Vo.o g hg;omega))
  (·have:=xZ.size;simp at this;omega);rw[xZ.block w aq (fun e=>by have:=Vo.o _ e.symm;omega),Below.heap_alloc _ _ _ af];exact VT.o)
 clear pg xZ x7;go_wp2;go_roundg (gk / 1048576);(case measure=>omega);(case rel=>exact⟨by simp,HO9.o⟩)
theorem iP {W w1:World} (hb:Below W W w1):(∀ b o,b<W.heap.size→w1.cell? (bY b o)=W.cell? (bY b o))∧(∀ b o,b<W.heap.size→w1.frozen? (bY b o)=W.frozen? (bY b o)):=
 ⟨fun b o h=>hb.cell (p:=bY b o) h,fun b o h=>hb.frozen (p:=bY b o) h⟩
theorem O6 {a b:iO} {M M' n n':Nat} {w:World} {s s':Int} {A A':Option Addr} (h:dA M w s A n a) (h':dA M' w s' A' n' b) (vC:dF a=true) (hrb:dF b=true) (hb:s'=1) (c c':Nat) (hM:M≤400000) (hM':M'≤400000):Calls prog 308 #[bW A n c,bW A' n' c'] w (tQ (dP a) (dP b) w):=by
 obtain⟨p1,p2,p3,p4,p5,p6⟩:=iH h vC;obtain⟨q1,q2,q3,q4,q5,q6⟩:=iH h' hrb;have hle:=h.le;have hle':=h'.le;have:=ND (jD a.dg) (jD b.dg) A A' c c' w p2 q2 p3 q3 af af (fun e=>by
  rw[e]at q6;have:=q6.2 rfl;omega)
 rw[p1,q1]at this;exact this
def Sd (M M':Nat) (q r:iO) (w:World) (e:Ending) (w':World):Prop:=
 ∃ s A n c t B m d,e= .returned (.tuple #[.agg #[bU s,bW A n c],.agg #[bU t,bW B m d],bU 0])∧dA M w' s A n q∧dA M' w' t B m r∧(dS w A∧dS w B)∧Below w w w'
theorem IL {M M' n n':Nat} {s s':Int} {A A':Option Addr} {a b:iO} (c c':Nat) (w:World) (h:dA M w s A n a) (h':dA M' w s' A' n' b) (vC:dF a=true) (hrb:dF b=true) (hs:s'=1) (hx:0≤s∨dP a % dP b=0) (hM:M≤400000) (hM':M'≤400000):Calls prog 286 #[.agg #[bU s,bW A n c],.agg #[bU s',bW A' n' c']] w (Sd M M' (oV s (dP a / dP b)) (oV s (dP a % dP b)) w):=by
 have hr:=fun W (h:dA M W s A n a)=>jN c h af;have hr':=fun W (h:dA M' W s' A' n' b)=>jN c' h af;rw[vC]at hr;rw[hrb]at hr';have H:=aa h;have H':=aa h';have HR:=aa hr;have R4:=aa hr';have HD:=aa (fun W (k:dA M W s A n a) (k':dA M' W s' A' n' b)=>O6 k k' vC hrb hs c c' hM hM');(have hsb:-1≤s∧s≤1:=by have:=(iH h vC);exact⟨this.2.2.2.1,this.2.2.2.2.1⟩);have HRA:=aa vC;have HRB:=aa hrb;have HPB:=aa (show 0<dP b from by
  have h9:=(iH h' hrb).2.2.2.2.2;(have:dP b≠0:=fun e=>by have:=h9.2 e;omega);omega)
 clear h h' hr hr' vC hrb;subst hs;go_enter func286,ntmps286;go_wp2_with fail;refine(HR.o _ ((((H.o.alloc _).alloc _).alloc _).alloc _)).mono ?_;rintro e w1 ⟨rfl,hb1⟩;have gW:=aa (show Below w w w1 from(((((aaf _ w).alloc aac _).alloc ai _).alloc aq _).alloc aq _).trans (hb1.mono aq));obtain⟨hc1,jy⟩:=iP hb1;have hz1:=hb1.size;simp only[aaI]at hz1;have z0:w.heap.size<w1:=af;have z1:w.heap.size+1<w1:=af;have z2:w.heap.size+1+1<w1:=af;have z3:w.heap.size+1+1+1<w1:=af;clear hb1 hz1;go_wp2_with fail;refine(R4.o _ (H'.o.bZ gW.o)).mono ?_;rintro e w2 ⟨rfl,hb2⟩;have dI:=aa (gW.o.trans (hb2.mono gW.o.size));obtain⟨hc2,hf2⟩:=iP hb2;have hz2:=hb2.size;have y0:w.heap.size<w2:=af;have y1:w.heap.size+1<w2:=af;have y2:w.heap.size+1+1<w2:=af;have y3:w.heap.size+1+1+1<w2:=af;clear hb2 hz2;go_wp2_with fail;refine(HD.o _ (H.o.bZ dI.o) (H'.o.bZ dI.o)).mono ?_;rintro e w3 ⟨q,r,rfl,⟨Aq,cq,rfl,Vj,haq,hfq⟩,⟨Ar,cr,rfl,hlr,har,hfr⟩,hb3⟩;have eE:=aa (dI.o.trans (hb3.mono dI.o.size));obtain⟨hc3,hf3⟩:=iP hb3;have hz3:=hb3.size;have x0:w.heap.size<w3:=af;have x1:w.heap.size+1<w3:=af;have x2:w.heap.size+1+1<w3:=af;have x3:w.heap.size+1+1+1<w3:=af;have hmul:IntKind.i64.wrap s=s:=fN af;have HAQ:=aa haq;have HAR:=aa har;have Vl:=aa Vj;have HLR:=aa hlr;have HFQ:=aa (show dS w2 Aq from hfq);have Sc:=aa (show dS w2 Ar from hfr);have DD:=aa (fun W (k:jl W Aq ((gI (dP a / dP b)).map nv))=>oz (n:=(gI (dP a / dP b)).length) M s (gI (dP a / dP b)) Aq cq W rfl (mM _) k Vj (by
  have:=j_ (Nat.div_le_self (dP a) (dP b));have e:=(iH H.o HRA.o).1;have e2:=H.o.le;have e3:=kD (iH H.o HRA.o).2.1;have e4:(gI (dP a)).length=n:=(congrArg List.length e3).symm.trans e;omega) af)
 have uq:=aa (fun W (k:jl W Ar ((gI (dP a % dP b)).map nv))=>oz (n:=(gI (dP a % dP b)).length) M' s (gI (dP a % dP b)) Ar cr W rfl (mM _) k hlr (by
  have e0:0<dP b:=HPB.o;have:=j_ (Nat.le_of_lt (Nat.mod_lt (dP a) e0));have e:=(iH H'.o HRB.o).1;have e2:=H'.o.le;have e3:=kD (iH H'.o HRB.o).2.1;have e4:(gI (dP b)).length=n':=(congrArg List.length e3).symm.trans e;omega) af)
 clear hb3 haq har Vj hlr hfq hfr;have s0:b_ w3 w 0 (bU s):=(hc3 _ _ y0).trans ((hc2 _ _ z0).trans ((hc1 _ _ aj).trans ax));have s1:b_ w3 w 1 (bW A n c):=(hc3 _ _ y0).trans ((hc2 _ _ z0).trans ((hc1 _ _ aj).trans ax));have s2:b_ w3 (w+1) 0 (bU 1):=(hc3 _ _ y1).trans ((hc2 _ _ z1).trans ((hc1 _ _ aj).trans ax));have s3:b_ w3 (w+1) 1 (bW A' n' c'):=(hc3 _ _ y1).trans ((hc2 _ _ z1).trans ((hc1 _ _ aj).trans ax));have s4:b_ w3 (w+1+1) 0 (bU 0):=(hc3 _ _ y2).trans ((hc2 _ _ z2).trans ((hc1 _ _ aj).trans ax));have s4f:w3.frozen? (bY (w+1+1) 0)=false:=(hf3 _ _ y2).trans ((hf2 _ _ z2).trans ((jy _ _ aj).trans ax));have s5:b_ w3 (w+1+1) 1 (bW none 0 0):=(hc3 _ _ y2).trans ((hc2 _ _ z2).trans ((hc1 _ _ aj).trans ax));have s5f:w3.frozen? (bY (w+1+1) 1)=false:=(hf3 _ _ y2).trans ((hf2 _ _ z2).trans ((jy _ _ aj).trans ax));have s6:b_ w3 (w+1+1+1) 0 (bU 0):=(hc3 _ _ y3).trans ((hc2 _ _ z3).trans ((hc1 _ _ aj).trans ax));have s6f:w3.frozen? (bY (w+1+1+1) 0)=false:=(hf3 _ _ y3).trans ((hf2 _ _ z3).trans ((jy _ _ aj).trans ax));have s7:b_ w3 (w+1+1+1) 1 (bW none 0 0):=(hc3 _ _ y3).trans ((hc2 _ _ z3).trans ((hc1 _ _ aj).trans ax));have s7f:w3.frozen? (bY (w+1+1+1) 1)=false:=(hf3 _ _ y3).trans ((hf2 _ _ z3).trans ((jy _ _ aj).trans ax));clear hc1 hc2 hc3 jy hf2 hf3;have NM:(decide (s<0)=false)∨(decide (s<0)=true∧¬0<(gI (dP a % dP b)).length):=by
  rcases Int.lt_or_le s 0 with h|h
  ·right;refine⟨by simpa using h,?_⟩;rcases hx with hx|hx
   (·omega);rw[hx,gL];simp
  left;simpa using h
 have HC:=aa NM;clear NM hx;have hvq:=jW (dP a / dP b);have hvr:=jW (dP a % dP b);have HVQ:=aa hvq;have HVR:=aa hvr;clear hvq hvr;have ne1:¬(w.heap.size=w.heap.size+1+1):=af;have ne2:¬(w.heap.size+1+1=w):=af;have ne3:¬(w.heap.size=w.heap.size+1+1+1):=af;have ne4:¬(w.heap.size+1+1+1=w):=af;rcases HC.o with hneg|⟨hneg,hl0⟩<;>
  (clear HC
   go_wp2_with fail
   go_region_held3 (fun w'=>b_ w' w 0 (bU s)∧b_ w' w 1 (bW A n c)∧b_ w' (w+1) 0 (bU 1)∧b_ w' (w+1) 1 (bW A' n' c')) (go_keep)
    (first
     |(go_at_call 248;(with_reducible refine(DD.o _ HAQ.o.drew).mono ?_);rintro e w4 ⟨i4,A4,n4,c4,rfl,IK,Ez,hb4⟩;have LB:=aa IK;have Wd:=aa (oy Ez HFQ.o);have gz:=aa (d_ hb4);obtain⟨vD,hg4⟩:=iP (d_ hb4);have QZ:=aa (d_ hb4).size;have q0:w.heap.size<w4:=aaD x0 QZ.o;have q1:w.heap.size+1<w4:=aaD x1 QZ.o;have q2:w.heap.size+1+1<w4:=aaD x2 QZ.o;have q3:w.heap.size+1+1+1<w4:=aaD x3 QZ.o;clear hb4 Ez IK)
     |(go_at_call 248;(with_reducible refine(uq.o _ (HAR.o.bZ gz.o)).mono ?_);rintro e w5 ⟨i5,A5,n5,c5,rfl,nS,O5,ew⟩;have xX:=aa nS;have o_:=aa (oy O5 Sc.o);have dO:=aa ew;obtain⟨rN,gj⟩:=iP ew;have KE:=aa ew.size;have p0:w.heap.size<w5:=aaD q0 KE.o;have p1:w.heap.size+1<w5:=aaD q1 KE.o;have p2:w.heap.size+1+1<w5:=aaD q2 KE.o;have p3:w.heap.size+1+1+1<w5:=aaD q3 KE.o;clear ew O5 nS))
   go_wp2
   have e1:b_ w5 (w+1+1) 0 (bU 0):=(rN _ _ q2).trans ((vD _ _ x2).trans s4)
   have e2:b_ w5 (w+1+1) 1 (bW none 0 0):=(rN _ _ q2).trans ((vD _ _ x2).trans s5)
   have e3:b_ w5 (w+1+1+1) 0 (bU 0):=(rN _ _ q3).trans ((vD _ _ x3).trans s6)
   have e4:b_ w5 (w+1+1+1) 1 (bW none 0 0):=(rN _ _ q3).trans ((vD _ _ x3).trans s7)
   have Ch:dS w2 A4:=Wd.o
   have Ci:dS w2 A5:=o_.o
   have i1:=((((LB.o.bZ dO.o).cF (i:=0) Ch y2 (bU i4)).cF (i:=1) Ch y2 (bW A4 n4 c4)).cF (i:=0) Ch y3 (bU i5)).cF (i:=1) Ch y3 (bW A5 n5 c5)
   have i2:=(((xX.o.cF (i:=0) Ci y2 (bU i4)).cF (i:=1) Ci y2 (bW A4 n4 c4)).cF (i:=0) Ci y3 (bU i5)).cF (i:=1) Ci y3 (bW A5 n5 c5)
   rw[HVQ.o]at i1
   rw[HVR.o]at i2
   have hb0:Below w w w5:=(eE.o.trans (gz.o.mono eE.o.size)).trans (dO.o.mono (Nat.le_of_lt q0))
   have lW:=(((hb0.setCell (p:=bY (w+1+1) 0) (show w.heap.size≤w.heap.size+1+1 by omega) (bU i4)).setCell (p:=bY (w+1+1) 1) (show w.heap.size≤w.heap.size+1+1 by omega) (bW A4 n4 c4)).setCell (p:=bY (w+1+1+1) 0) (show w.heap.size≤w.heap.size+1+1+1 by omega) (bU i5)).setCell (p:=bY (w+1+1+1) 1) (show w.heap.size≤w.heap.size+1+1+1 by omega) (bW A5 n5 c5)
   exact bodyPost_ret (v:= .tuple #[.agg #[bU i4,bW A4 n4 c4],.agg #[bU i5,bW A5 n5 c5],bU 0]) (by simp[results,results286,go_sem,e1,e2,e3,e4]) rfl ⟨i4,A4,n4,c4,i5,A5,n5,c5,rfl,i1,i2,⟨Ch.low dI.o.size,Ci.low dI.o.size⟩,lW⟩)
theorem vE (w:World) (o:Obj) (b i:Nat) (h:b<w.heap.size):(w.alloc o).cell? (bY b i)=w.cell? (bY b i):=World.cell?_alloc_lt w o (bY b i) h
def newF (p q:iO):eG:=⟨oV p.sign (dP p / Nat.gcd (dP p) (dP q)),oV 1 (dP q / Nat.gcd (dP p) (dP q))⟩
theorem F6 {p q:iO} (hq:0<dP q):0<Nat.gcd (dP p) (dP q):=Nat.gcd_pos_of_pos_right _ hq
theorem kE {s:Int} {n:Nat} (h:n≠0):(oV s n).sign=s:=by unfold oV;rw[if_neg h]
theorem ql {b:iO} (h:dF b=true) (hs:b.sign=1):0<dP b:=by
 have:=kQ h;(have:dP b≠0:=fun e=>by have:=this.1 e;omega);omega
theorem uT {p q:iO} (hp:dF p=true) (hq:dF q=true) (hs:q.sign=1):dK (newF p q)=true:=by
 have Wi:=ql hq hs;have hg:=F6 (p:=p) Wi;have hd:0<dP q / Nat.gcd (dP p) (dP q):=Nat.div_pos (Nat.le_of_dvd Wi (Nat.gcd_dvd_right _ _)) hg;unfold dK newF;simp only[Bool.and_eq_true,beq_iff_eq,vM];refine⟨⟨⟨zg ?_,l_ (.inl rfl)⟩,kE af⟩,by rw[Nat.gcd_div (Nat.gcd_dvd_left _ _) (Nat.gcd_dvd_right _ _)];exact Nat.div_self hg⟩;rcases oW hp with h|h|h
 (·exact .inr (.inl h))
 (·refine .inr (.inr ?_);have:=(kQ hp).2 h;rw[this];simp);exact .inl h
def Ba (M:Nat) (f:eG) (w:World) (e:Ending) (w':World):Prop:=
 ∃ s A n c t B m d,e= .returned (.tuple #[.agg #[bU s,bW A n c,bU t,bW B m d],bU 0])∧dN M w' s A n t B m f∧(dS w A∧dS w B)∧Below w w w'
def NN (M:Nat) (f:eG) (w:World) (e:Ending) (w':World):Prop:=
 ∃ s A n c t B m d,e= .returned (.agg #[bU s,bW A n c,bU t,bW B m d])∧dN M w' s A n t B m f∧(dS w A∧dS w B)∧Below w w w'
theorem Cj {M n n':Nat} {s s':Int} {A A':Option Addr} {p q:iO} (c c':Nat) (w:World) (h:dA M w s A n p) (h':dA M w s' A' n' q) (hrp:dF p=true) (hrq:dF q=true) (hs:s'=1) (hM:M+M≤400000):Calls prog 250 #[.agg #[bU s,bW A n c],.agg #[bU s',bW A' n' c']] w (Ba M (newF p q) w):=by
 subst hs;have hqs:q.sign=1:=h'.1;have hps:p.sign=s:=h.1;have hr:=fun W (k:dA M W s A n p)=>jN c k af;have hr':=fun W (k:dA M W 1 A' n' q)=>jN c' k af;rw[hrp]at hr;rw[hrq]at hr';have Wi:=ql hrq hqs;have hg0:=F6 (p:=p) Wi;have H:=aa h;have H':=aa h';have HR:=aa hr;have R4:=aa hr';have HG:=aa (fun W (k:dA M W s A n p) (k':dA M W 1 A' n' q)=>NI c c' W k k' hrp hrq hM);have hN:newF p q=⟨oV s (dP p / Nat.gcd (dP p) (dP q)),oV 1 (dP q / Nat.gcd (dP p) (dP q))⟩:=(by unfold newF;rw[hps]);have Cc:dP p % Nat.gcd (dP p) (dP q)=0:=Nat.mod_eq_zero_of_dvd (Nat.gcd_dvd_left _ _);have hm2:dP q % Nat.gcd (dP p) (dP q)=0:=Nat.mod_eq_zero_of_dvd (Nat.gcd_dvd_right _ _);rw[hN];clear hN hqs hps hr hr' h h' Wi;generalize Nat.gcd (dP p) (dP q)=G at*;have hGr:dF (oV 1 G)=true:=l_ (.inl rfl);have hGv:dP (oV 1 G)=G:=vM 1 G;have HD1:=aa (fun W sg Ag ng cg (k:dA M W s A n p) (k':dA (M+M) W sg Ag ng (oV 1 G)) (e:sg=1)=>IL c cg W k k' hrp hGr e (.inr (by rw[hGv];exact Cc)) af af);have HD2:=aa (fun W sg Ag ng cg (k:dA M W 1 A' n' q) (k':dA (M+M) W sg Ag ng (oV 1 G)) (e:sg=1)=>IL c' cg W k k' hrq hGr e (.inl af) af af);rw[hGv,Cc]at HD1;rw[hGv,hm2]at HD2;have HSG:=aa (show(oV 1 G).sign=1 from kE af);clear Cc hm2 hGr hGv hrp hrq hg0;go_enter func250,ntmps250;go_wp2_with fail;refine(HR.o _ (((H.o.alloc _).alloc _).alloc _)).mono ?_;rintro e w1 ⟨rfl,hb1⟩;have gW:=aa (show Below w w w1 from((((aaf _ w).alloc aac _).alloc ai _).alloc aq _).trans (hb1.mono aq));obtain⟨hc1,jy⟩:=iP hb1;have Sg:=hb1.size;simp only[aaI]at Sg;have z0:w.heap.size<w1:=af;have z1:w.heap.size+1<w1:=af;have z2:w.heap.size+1+1<w1:=af;clear hb1 Sg;go_wp2_with fail;refine(R4.o _ (H'.o.bZ gW.o)).mono ?_;rintro e w2 ⟨rfl,hb2⟩;have dI:=aa (gW.o.trans (hb2.mono gW.o.size));obtain⟨hc2,hf2⟩:=iP hb2;have Vp:=hb2.size;have y0:w.heap.size<w2:=af;have y1:w.heap.size+1<w2:=af;have y2:w.heap.size+1+1<w2:=af;clear hb2 Vp;go_wp2_with fail;refine(HG.o _ (H.o.bZ dI.o) (H'.o.bZ dI.o)).mono ?_;rintro e w3 ⟨sg,Ag,ng,cg,rfl,hAg,hFg,hb3⟩;have eE:=aa (dI.o.trans (hb3.mono dI.o.size));obtain⟨hc3,hf3⟩:=iP hb3;have O7:=hb3.size;have x0:w.heap.size<w3:=af;have x1:w.heap.size+1<w3:=af;have x2:w.heap.size+1+1<w3:=af;have HAG:=aa hAg;have hsg:sg=1:=hAg.1.symm.trans HSG.o;have HSGE:=aa hsg;clear hb3 O7 hAg hFg hsg;go_wp2_with fail;refine(HD1.o _ _ _ _ _ ((H.o.bZ eE.o).alloc _) (HAG.o.alloc _) HSGE.o).mono ?_;rintro e w4 ⟨sa,Aa,na,ca,sr,Ar,nr,cr,rfl,hAa,_,hFa,hb4⟩;have gz:=aa ((eE.o.alloc eE.o.size _).trans (hb4.mono (by have:=eE.o.size;simp;omega)));obtain⟨vD,Ez⟩:=iP hb4;have Ho:=hb4.size;simp only[aaI]at Ho;have v0:w.heap.size<w4:=af;have v1:w.heap.size+1<w4:=af;have v2:w.heap.size+1+1<w4:=af;have v3:w3.heap.size<w4:=af;have HAA:=aa hAa;have Q0:=aa (show dS (w3+1) Aa by simpa using hFa.1);have HG4:=aa (show Below w3 w3 w4 from((aaf _ w3).alloc aac _).trans (hb4.mono ai));clear hb4 Ho hAa hFa;go_wp2_with fail;refine(HD2.o _ _ _ _ _ (((H'.o.bZ gz.o).alloc _).alloc _) (((HAG.o.bZ HG4.o).alloc _).alloc _) HSGE.o).mono ?_;rintro e w5 ⟨sb,Ab,nb,cb,st,At,nt,ct,rfl,hAb,_,hFb,ew⟩;have dO:=aa (((gz.o.alloc gz.o.size _).alloc (by have:=gz.o.size;simp;omega) _).trans (ew.mono (by have:=gz.o.size;simp;omega)));obtain⟨rN,O5⟩:=iP ew;have wu:=ew.size;simp only[aaI]at wu;have u0:w.heap.size<w5:=af;have u1:w.heap.size+1<w5:=af;have u2:w.heap.size+1+1<w5:=af;have u3:w3.heap.size<w5:=af;have u4:w4.heap.size<w5:=af;have u5:w4.heap.size+1<w5:=af;have HAB:=aa hAb;have HFB:=aa (show dS (w4+1+1) Ab by simpa using hFb.1);have Vo:=aa (show Below w4 w4 w5 from(((aaf _ w4).alloc aac _).alloc ai _).trans (ew.mono aq));clear ew wu hAb hFb;go_wp2_with fail;have e0:b_ w5 (w+1+1) 0 (bU 0):=(rN _ _ aj).trans ((vE _ _ _ _ aj).trans ((vE _ _ _ _ v2).trans ((vD _ _ aj).trans ((vE _ _ _ _ x2).trans ((hc3 _ _ y2).trans ((hc2 _ _ z2).trans ((hc1 _ _ aj).trans ax)))))));have e1:b_ w5 (w+1+1) 1 (bW none 0 0):=(rN _ _ aj).trans ((vE _ _ _ _ aj).trans ((vE _ _ _ _ v2).trans ((vD _ _ aj).trans ((vE _ _ _ _ x2).trans ((hc3 _ _ y2).trans ((hc2 _ _ z2).trans ((hc1 _ _ aj).trans ax)))))));have e2:b_ w5 (w+1+1) 2 (bU 0):=(rN _ _ aj).trans ((vE _ _ _ _ aj).trans ((vE _ _ _ _ v2).trans ((vD _ _ aj).trans ((vE _ _ _ _ x2).trans ((hc3 _ _ y2).trans ((hc2 _ _ z2).trans ((hc1 _ _ aj).trans ax)))))));have e3:b_ w5 (w+1+1) 3 (bW none 0 0):=(rN _ _ aj).trans ((vE _ _ _ _ aj).trans ((vE _ _ _ _ v2).trans ((vD _ _ aj).trans ((vE _ _ _ _ x2).trans ((hc3 _ _ y2).trans ((hc2 _ _ z2).trans ((hc1 _ _ aj).trans ax)))))));have k1:dA M w5 sa Aa na (oV s (dP p / G)):=HAA.o.bZ Vo.o;have k2:dA M w5 sb Ab nb (oV 1 (dP q / G)):=HAB.o;have i1:=(((((k1.cF (i:=0) Q0.o (show w.heap.size+1+1<w3.heap.size+1 by omega) (bU sa)).cF (i:=1) Q0.o (show w.heap.size+1+1<w3.heap.size+1 by omega) (bW Aa na ca)).cF (i:=2) Q0.o (show w.heap.size+1+1<w3.heap.size+1 by omega) (bU sb)).cF (i:=3) Q0.o (show w.heap.size+1+1<w3.heap.size+1 by omega) (bW Ab nb cb)).alloc (.cells #[bU sb,bW Ab nb cb] 161)).alloc (.cells #[bU st,bW At nt ct] 161);have i2:=(((((k2.cF (i:=0) HFB.o (show w.heap.size+1+1<w4.heap.size+1+1 by omega) (bU sa)).cF (i:=1) HFB.o (show w.heap.size+1+1<w4.heap.size+1+1 by omega) (bW Aa na ca)).cF (i:=2) HFB.o (show w.heap.size+1+1<w4.heap.size+1+1 by omega) (bU sb)).cF (i:=3) HFB.o (show w.heap.size+1+1<w4.heap.size+1+1 by omega) (bW Ab nb cb)).alloc (.cells #[bU sb,bW Ab nb cb] 161)).alloc (.cells #[bU st,bW At nt ct] 161);have lW:=(((((dO.o.setCell (p:=bY (w+1+1) 0) (show w.heap.size≤w.heap.size+1+1 by omega) (bU sa)).setCell (p:=bY (w+1+1) 1) (show w.heap.size≤w.heap.size+1+1 by omega) (bW Aa na ca)).setCell (p:=bY (w+1+1) 2) (show w.heap.size≤w.heap.size+1+1 by omega) (bU sb)).setCell (p:=bY (w+1+1) 3) (show w.heap.size≤w.heap.size+1+1 by omega) (bW Ab nb cb)).alloc aD (.cells #[bU sb,bW Ab nb cb] 161)).alloc aD (.cells #[bU st,bW At nt ct] 161);have hx3:=eE.o.size;have hx4:=gz.o.size;clear hc1 hc2 hc3 vD rN jy hf2 hf3 Ez O5;have g0:((((((w5.setCell (bY (w+1+1) 0) (bU sa)).setCell (bY (w+1+1) 1) (bW Aa na ca)).setCell (bY (w+1+1) 2) (bU sb)).setCell (bY (w+1+1) 3) (bW Ab nb cb)).alloc (.cells #[bU sb,bW Ab nb cb] 161)).alloc (.cells #[bU st,bW At nt ct] 161)).cell? (bY (w+1+1) 0)=some (bU sa):=(vE _ _ _ _ aD).trans ((vE _ _ _ _ aD).trans (by simp[go_sem,e0,e1,e2,e3]));have g1:((((((w5.setCell (bY (w+1+1) 0) (bU sa)).setCell (bY (w+1+1) 1) (bW Aa na ca)).setCell (bY (w+1+1) 2) (bU sb)).setCell (bY (w+1+1) 3) (bW Ab nb cb)).alloc (.cells #[bU sb,bW Ab nb cb] 161)).alloc (.cells #[bU st,bW At nt ct] 161)).cell? (bY (w+1+1) 1)=some (bW Aa na ca):=(vE _ _ _ _ aD).trans ((vE _ _ _ _ aD).trans (by simp[go_sem,e0,e1,e2,e3]));have g2:((((((w5.setCell (bY (w+1+1) 0) (bU sa)).setCell (bY (w+1+1) 1) (bW Aa na ca)).setCell (bY (w+1+1) 2) (bU sb)).setCell (bY (w+1+1) 3) (bW Ab nb cb)).alloc (.cells #[bU sb,bW Ab nb cb] 161)).alloc (.cells #[bU st,bW At nt ct] 161)).cell? (bY (w+1+1) 2)=some (bU sb):=(vE _ _ _ _ aD).trans ((vE _ _ _ _ aD).trans (by simp[go_sem,e0,e1,e2,e3]));have g3:((((((w5.setCell (bY (w+1+1) 0) (bU sa)).setCell (bY (w+1+1) 1) (bW Aa na ca)).setCell (bY (w+1+1) 2) (bU sb)).setCell (bY (w+1+1) 3) (bW Ab nb cb)).alloc (.cells #[bU sb,bW Ab nb cb] 161)).alloc (.cells #[bU st,bW At nt ct] 161)).cell? (bY (w+1+1) 3)=some (bW Ab nb cb):=(vE _ _ _ _ aD).trans ((vE _ _ _ _ aD).trans (by simp[go_sem,e0,e1,e2,e3]));exact bodyPost_ret (v:= .tuple #[.agg #[bU sa,bW Aa na ca,bU sb,bW Ab nb cb],bU 0]) (by simp[results,results250,go_sem,g0,g1,g2,g3]) rfl ⟨sa,Aa,na,ca,sb,Ab,nb,cb,rfl,⟨i1,i2⟩,⟨Q0.o.low af,HFB.o.low af⟩,lW⟩
end Go.Proofs.YtfppbjfnllhgcaaGreat
