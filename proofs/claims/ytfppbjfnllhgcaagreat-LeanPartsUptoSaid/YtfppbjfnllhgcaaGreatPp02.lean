/- Parts of the proof, packed (Node to BigRight); each theorem bears its own conditions. -/
import Derived.Shelf.SlicesE.IndexFunc
import Derived.Ground.SlgfProg
import Derived.Test.YtfppbjfnllhgcaaGreatRows
import Derived.Deep.Slices
import Derived.Deep.Fields
import Derived.Deep.Strs
import Derived.ChangeSame
import Derived.ProofKit
import Derived.OpenShut
import Derived.ShutString
import Derived.ChangeOld
import Derived.Lay
import Derived.SevenTiedAt
import Derived.Lib.ItoaLen
import Derived.Deep.Cut
import Derived.Laws.EntriesVeiled
import Derived.OrdersHeld
import Derived.Deep.RegionHeld
import Derived.Maps.RangeWalk
import Derived.Test.YtfppbjfnllhgcaaGreatPp01
set_option linter.unusedVariables false
set_option linter.unusedSimpArgs false
set_option maxRecDepth 100000
set_option maxHeartbeats 8000000
open Go.Proofs.Tryz
open Go.Lib renaming hid → aa
open Nat renaming le_refl→aaB,lt_of_lt_of_le→aaD,le_trans→aaC,zero_le→aaG
open Go.World renaming size_alloc→aaI
open List renaming getElem_mem→aan,getD_eq_getElem?_getD→aam,mem_cons→aas,mem_append→aar,take_succ_cons→aay,mem_map→aat,eq_nil_of_length_eq_zero→aaj,range→aav
open Go.RowKit.Below renaming refl→aaf
open Bool renaming and_eq_true→aag
open Option renaming map_eq_some_iff→aaH
theorem Go.Shut.o {p : Prop} (h : Go.Shut p) : p := h
theorem bN {p:Prop} (h:p:=by rw[HR.o];simp[p0.o]):p:=h
theorem aP {p:Prop} (h:p:=by rw[HR.o];simp[p0.o,m2.o,p1.o,p2.o,p3.o,p4.o,p5.o,Ya.o,Yb.o,HP.o]):p:=h
theorem aF {p:Prop} (h:p:=by simpa using h1):p:=h
theorem aR {p:Prop} (h:p:=by unfold maxLen at hbig;omega):p:=h
theorem aM {p:Prop} (h:p:=by unfold cE;rfl):p:=h
theorem aH {p:Prop} (h:p:=by unfold maxLen;omega):p:=h
theorem ax {p:Prop} (h:p:=by simp[go_sem]):p:=h
theorem aC {p:Prop} (h:p:=by have:=HN.o;omega):p:=h
theorem bO {p:Prop} (h:p:=by rw[World.size_alloc,World.size_alloc];omega):p:=h
theorem bE {p:Prop} (h:p:=by simpa using ho):p:=h
theorem aA {p:Prop} (h:p:=by rw[← hW1];simp[go_sem]):p:=h
theorem aS {p:Prop} (h:p:=by simpa using h0):p:=h
namespace Go.Proofs.YtfppbjfnllhgcaaGreat
open Go Go.RowKit Kb Sh Go.Proofs
theorem sG {W w1:World} (hb:Below W W w1):(∀ b o,b<W.heap.size→w1.cell? (bY b o)=W.cell? (bY b o))∧(∀ b o,b<W.heap.size→w1.frozen? (bY b o)=W.frozen? (bY b o)):=
 ⟨fun b o h=>hb.cell (p:=bY b o) h,fun b o h=>hb.frozen (p:=bY b o) h⟩
theorem ig (s:ByteArray):s.toList.isEmpty=jJ s:=by
 unfold jJ;rw[Lib.toList_data, ← eW];cases s.data.toList<;>rfl
theorem nil_eq (s:ByteArray):(s.toList==[])=jJ s:=by
 rw[← ig];cases s.toList<;>rfl
def R1 (op:Int):ByteArray:=
 if op=6 then⟨#[43]⟩else
 if op=7 then⟨#[45]⟩else
 if op=8 then⟨#[42]⟩else
 if op=9 then⟨#[47]⟩else
 if op=12 then⟨#[60]⟩else
 if op=13 then⟨#[61]⟩else
 if op=14 then⟨#[97,110,100]⟩else
 if op=15 then⟨#[111,114]⟩else
 ⟨#[]⟩
theorem R2 (op:Int) (w:World):Calls prog 254 #[bU op] w fun e w'=>e= .returned (.tuple #[bV (R1 op),.bool (BS op)])∧w=w':=by
 by_cases h6:op=6
 (·subst h6;go_enter func254,ntmps254;go_wp2;go_ret2;exact⟨rfl,rfl⟩);by_cases h7:op=7
 (·subst h7;go_enter func254,ntmps254;go_wp2;go_ret2;exact⟨rfl,rfl⟩);by_cases h8:op=8
 (·subst h8;go_enter func254,ntmps254;go_wp2;go_ret2;exact⟨rfl,rfl⟩);by_cases h9:op=9
 (·subst h9;go_enter func254,ntmps254;go_wp2;go_ret2;exact⟨rfl,rfl⟩);by_cases h12:op=12
 (·subst h12;go_enter func254,ntmps254;go_wp2;go_ret2;exact⟨rfl,rfl⟩);by_cases h13:op=13
 (·subst h13;go_enter func254,ntmps254;go_wp2;go_ret2;exact⟨rfl,rfl⟩);by_cases h14:op=14
 (·subst h14;go_enter func254,ntmps254;go_wp2;go_ret2;exact⟨rfl,rfl⟩);by_cases h15:op=15
 (·subst h15;go_enter func254,ntmps254;go_wp2;go_ret2;exact⟨rfl,rfl⟩);have e6:(op==6)=false:=(by simpa using h6);have e7:(op==7)=false:=(by simpa using h7);have e8:(op==8)=false:=(by simpa using h8);have e9:(op==9)=false:=(by simpa using h9);have e12:(op==12)=false:=(by simpa using h12);have e13:(op==13)=false:=(by simpa using h13);have e14:(op==14)=false:=(by simpa using h14);have e15:(op==15)=false:=(by simpa using h15);have H1:=aa (show R1 op=⟨#[]⟩ by unfold R1;simp[h6,h7,h8,h9,h12,h13,h14,h15]);have H2:=aa (show BS op=false by unfold BS;simp;omega);clear h6 h7 h8 h9 h12 h13 h14 h15;rw[H1.o,H2.o];go_enter func254,ntmps254;go_wp2;go_ret2;exact⟨rfl,rfl⟩
def lM (b:Bool) (w:World) (e:Ending) (w':World):Prop:=e= .returned (.bool b)∧Below w w w'
theorem R3 (op n:Int) (unit name:ByteArray) (A:Option Addr) (k c:Nat) (w:World) (hu:unit.size≤maxLen) (hn:name.size≤maxLen):Calls prog 213 #[.agg #[bU op,bU n,bV unit,bV name,bW A k c]] w (lM (qi op n unit name k) w):=by
 have hq:=fun W=>EE unit W hu;have hnm:=fun W=>Pa name W hn;have ho:=fun W=>R2 op W;have n1:=ig name;have n2:=nil_eq name;have u1:=ig unit;have u2:=nil_eq unit;have hr:qi op n unit name k=(if op=0 then kQ unit&&decide (0≤n)&&decide (n≤1099511627776)&&jJ name&&((k:Int)==0)
  else if !(n==0)|| !jJ unit then false
  else if op=1 then dY name&&((k:Int)==0)
  else if op=2 then dY name&&((k:Int)==1)
  else if op=3 then dY name&&decide (1≤(k:Int))&&decide ((k:Int)≤6)
  else if op=4 then jJ name&&((k:Int)==1)
  else if op=5 then jJ name&&((k:Int)==3)
  else if op=10||op=11 then jJ name&&((k:Int)==2)
  else BS op&&jJ name&&((k:Int)==2)):=by
  have z:∀ m:Nat,(k==m)=((k:Int)==(m:Int)):=fun m=>by rw[Bool.eq_iff_iff];simp;omega
  have z1:decide (1≤k)=decide (1≤(k:Int)):=by rw[decide_eq_decide];omega
  have z6:decide (k≤6)=decide ((k:Int)≤6):=by rw[decide_eq_decide];omega
  unfold qi
  rw[z 0,z 1,z 2,z 3,z1,z6]
  rfl
 have hk0:0≤(k:Int):=af;generalize qi op n unit name k=R at hr ⊢;generalize k0:((k:Int)==0)=b0 at hr;generalize k1:((k:Int)==1)=b1 at hr;generalize k2:((k:Int)==2)=b2 at hr;generalize k3:((k:Int)==3)=b3 at hr;generalize g1:decide (1≤(k:Int))=c1 at hr;generalize g6:decide ((k:Int)≤6)=c6 at hr;generalize x0:decide (0≤n)=y0 at hr;generalize x1:decide (n≤1099511627776)=y1 at hr;generalize kQ unit=q at hq hr;generalize dY name=f at hnm hr;generalize jJ name=z at n1 n2 hr;generalize jJ unit=y at u1 u2 hr;generalize hop:BS op=ob at ho hr;have HR:=aa hr;have HQ:=aa hq;have HN:=aa hnm;have HO:=aa ho;have HP:=aa hop;clear hu hn hop hr hq hnm ho;cases o0:(op==0)with
 |true=>
  have p0:=aa (eq_of_beq o0);cases q with
  |false=>
   go_enter func213,ntmps213;go_wp2_with (first|(go_at_call 196;refine(HQ.o _).mono ?_;rintro e w1 ⟨⟨t,rfl⟩,hb1⟩;obtain⟨hc1,jw⟩:=sG hb1)|(go_at_call 253;refine(HN.o _).mono ?_;rintro e w1 ⟨rfl,rfl⟩)|(go_at_call 254;refine(HO.o _).mono ?_;rintro e w1 ⟨rfl,rfl⟩));go_ret;exact⟨cZ bN,(cS _).trans (hb1.mono ai)⟩
  |true=>
   cases y0 with
   |false=>
    go_enter func213,ntmps213;go_wp2_with (first|(go_at_call 196;refine(HQ.o _).mono ?_;rintro e w1 ⟨⟨t,rfl⟩,hb1⟩;obtain⟨hc1,jw⟩:=sG hb1)|(go_at_call 253;refine(HN.o _).mono ?_;rintro e w1 ⟨rfl,rfl⟩)|(go_at_call 254;refine(HO.o _).mono ?_;rintro e w1 ⟨rfl,rfl⟩));go_ret;exact⟨cZ bN,(cS _).trans (hb1.mono ai)⟩
   |true=>
    cases y1 with
    |false=>
     go_enter func213,ntmps213;go_wp2_with (first|(go_at_call 196;refine(HQ.o _).mono ?_;rintro e w1 ⟨⟨t,rfl⟩,hb1⟩;obtain⟨hc1,jw⟩:=sG hb1)|(go_at_call 253;refine(HN.o _).mono ?_;rintro e w1 ⟨rfl,rfl⟩)|(go_at_call 254;refine(HO.o _).mono ?_;rintro e w1 ⟨rfl,rfl⟩));go_ret;exact⟨cZ bN,(cS _).trans (hb1.mono ai)⟩
    |true=>
     cases z with
     |false=>
      go_enter func213,ntmps213;go_wp2_with (first|(go_at_call 196;refine(HQ.o _).mono ?_;rintro e w1 ⟨⟨t,rfl⟩,hb1⟩;obtain⟨hc1,jw⟩:=sG hb1)|(go_at_call 253;refine(HN.o _).mono ?_;rintro e w1 ⟨rfl,rfl⟩)|(go_at_call 254;refine(HO.o _).mono ?_;rintro e w1 ⟨rfl,rfl⟩));go_ret;exact⟨cZ bN,(cS _).trans (hb1.mono ai)⟩
     |true=>
      cases b0 with
      |false=>
       go_enter func213,ntmps213;go_wp2_with (first|(go_at_call 196;refine(HQ.o _).mono ?_;rintro e w1 ⟨⟨t,rfl⟩,hb1⟩;obtain⟨hc1,jw⟩:=sG hb1)|(go_at_call 253;refine(HN.o _).mono ?_;rintro e w1 ⟨rfl,rfl⟩)|(go_at_call 254;refine(HO.o _).mono ?_;rintro e w1 ⟨rfl,rfl⟩));go_ret;exact⟨cZ bN,(cS _).trans (hb1.mono ai)⟩
      |true=>
       go_enter func213,ntmps213;go_wp2_with (first|(go_at_call 196;refine(HQ.o _).mono ?_;rintro e w1 ⟨⟨t,rfl⟩,hb1⟩;obtain⟨hc1,jw⟩:=sG hb1)|(go_at_call 253;refine(HN.o _).mono ?_;rintro e w1 ⟨rfl,rfl⟩)|(go_at_call 254;refine(HO.o _).mono ?_;rintro e w1 ⟨rfl,rfl⟩));go_ret;exact⟨cZ bN,(cS _).trans (hb1.mono ai)⟩
 |false=>
  have p0:=aa (show ¬op=0 by simpa using o0);cases m0:(n==0)with
  |false=>
   have m1:(n != 0)=true:=(by simp[bne,m0]);have m2:=aa (show ¬n=0 by simpa using m0);go_enter func213,ntmps213;go_wp2_with (first|(go_at_call 196;refine(HQ.o _).mono ?_;rintro e w1 ⟨⟨t,rfl⟩,hb1⟩;obtain⟨hc1,jw⟩:=sG hb1)|(go_at_call 253;refine(HN.o _).mono ?_;rintro e w1 ⟨rfl,rfl⟩)|(go_at_call 254;refine(HO.o _).mono ?_;rintro e w1 ⟨rfl,rfl⟩));go_ret;exact⟨cZ (by rw[HR.o];simp[p0.o,m2.o]),(cS _)⟩
  |true=>
   have m1:(n != 0)=false:=(by simp[bne,m0]);have m2:=aa (show n=0 by simpa using m0);cases y with
   |false=>
    go_enter func213,ntmps213;go_wp2_with (first|(go_at_call 196;refine(HQ.o _).mono ?_;rintro e w1 ⟨⟨t,rfl⟩,hb1⟩;obtain⟨hc1,jw⟩:=sG hb1)|(go_at_call 253;refine(HN.o _).mono ?_;rintro e w1 ⟨rfl,rfl⟩)|(go_at_call 254;refine(HO.o _).mono ?_;rintro e w1 ⟨rfl,rfl⟩));go_ret;exact⟨cZ (by rw[HR.o];simp[p0.o,m2.o]),(cS _)⟩
   |true=>
    cases o1:(op==1)with
    |true=>
     have p1:=aa (show op=1 by simpa using o1);cases f with
     |false=>
      go_enter func213,ntmps213;go_wp2_with (first|(go_at_call 196;refine(HQ.o _).mono ?_;rintro e w1 ⟨⟨t,rfl⟩,hb1⟩;obtain⟨hc1,jw⟩:=sG hb1)|(go_at_call 253;refine(HN.o _).mono ?_;rintro e w1 ⟨rfl,rfl⟩)|(go_at_call 254;refine(HO.o _).mono ?_;rintro e w1 ⟨rfl,rfl⟩));go_ret;exact⟨cZ (by rw[HR.o];simp[m2.o,p1.o]),(cS _)⟩
     |true=>
      cases b0 with
      |false=>
       go_enter func213,ntmps213;go_wp2_with (first|(go_at_call 196;refine(HQ.o _).mono ?_;rintro e w1 ⟨⟨t,rfl⟩,hb1⟩;obtain⟨hc1,jw⟩:=sG hb1)|(go_at_call 253;refine(HN.o _).mono ?_;rintro e w1 ⟨rfl,rfl⟩)|(go_at_call 254;refine(HO.o _).mono ?_;rintro e w1 ⟨rfl,rfl⟩));go_ret;exact⟨cZ (by rw[HR.o];simp[m2.o,p1.o]),(cS _)⟩
      |true=>
       go_enter func213,ntmps213;go_wp2_with (first|(go_at_call 196;refine(HQ.o _).mono ?_;rintro e w1 ⟨⟨t,rfl⟩,hb1⟩;obtain⟨hc1,jw⟩:=sG hb1)|(go_at_call 253;refine(HN.o _).mono ?_;rintro e w1 ⟨rfl,rfl⟩)|(go_at_call 254;refine(HO.o _).mono ?_;rintro e w1 ⟨rfl,rfl⟩));go_ret;exact⟨cZ (by rw[HR.o];simp[m2.o,p1.o]),(cS _)⟩
    |false=>
     have p1:=aa (show ¬op=1 by simpa using o1);cases o2:(op==2)with
     |true=>
      have p2:=aa (show op=2 by simpa using o2);cases f with
      |false=>
       go_enter func213,ntmps213;go_wp2_with (first|(go_at_call 196;refine(HQ.o _).mono ?_;rintro e w1 ⟨⟨t,rfl⟩,hb1⟩;obtain⟨hc1,jw⟩:=sG hb1)|(go_at_call 253;refine(HN.o _).mono ?_;rintro e w1 ⟨rfl,rfl⟩)|(go_at_call 254;refine(HO.o _).mono ?_;rintro e w1 ⟨rfl,rfl⟩));go_ret;exact⟨cZ (by rw[HR.o];simp[m2.o,p2.o]),(cS _)⟩
      |true=>
       cases b1 with
       |false=>
        go_enter func213,ntmps213;go_wp2_with (first|(go_at_call 196;refine(HQ.o _).mono ?_;rintro e w1 ⟨⟨t,rfl⟩,hb1⟩;obtain⟨hc1,jw⟩:=sG hb1)|(go_at_call 253;refine(HN.o _).mono ?_;rintro e w1 ⟨rfl,rfl⟩)|(go_at_call 254;refine(HO.o _).mono ?_;rintro e w1 ⟨rfl,rfl⟩));go_ret;exact⟨cZ (by rw[HR.o];simp[m2.o,p2.o]),(cS _)⟩
       |true=>
        go_enter func213,ntmps213;go_wp2_with (first|(go_at_call 196;refine(HQ.o _).mono ?_;rintro e w1 ⟨⟨t,rfl⟩,hb1⟩;obtain⟨hc1,jw⟩:=sG hb1)|(go_at_call 253;refine(HN.o _).mono ?_;rintro e w1 ⟨rfl,rfl⟩)|(go_at_call 254;refine(HO.o _).mono ?_;rintro e w1 ⟨rfl,rfl⟩));go_ret;exact⟨cZ (by rw[HR.o];simp[m2.o,p2.o]),(cS _)⟩
     |false=>
      have p2:=aa (show ¬op=2 by simpa using o2);cases o3:(op==3)with
      |true=>
       have p3:=aa (show op=3 by simpa using o3);cases f with
       |false=>
        go_enter func213,ntmps213;go_wp2_with (first|(go_at_call 196;refine(HQ.o _).mono ?_;rintro e w1 ⟨⟨t,rfl⟩,hb1⟩;obtain⟨hc1,jw⟩:=sG hb1)|(go_at_call 253;refine(HN.o _).mono ?_;rintro e w1 ⟨rfl,rfl⟩)|(go_at_call 254;refine(HO.o _).mono ?_;rintro e w1 ⟨rfl,rfl⟩));go_ret;exact⟨cZ (by rw[HR.o];simp[m2.o,p3.o]),(cS _)⟩
       |true=>
        cases c1 with
        |false=>
         go_enter func213,ntmps213;go_wp2_with (first|(go_at_call 196;refine(HQ.o _).mono ?_;rintro e w1 ⟨⟨t,rfl⟩,hb1⟩;obtain⟨hc1,jw⟩:=sG hb1)|(go_at_call 253;refine(HN.o _).mono ?_;rintro e w1 ⟨rfl,rfl⟩)|(go_at_call 254;refine(HO.o _).mono ?_;rintro e w1 ⟨rfl,rfl⟩));go_ret;exact⟨cZ (by rw[HR.o];simp[m2.o,p3.o]),(cS _)⟩
        |true=>
         cases c6 with
         |false=>
          go_enter func213,ntmps213;go_wp2_with (first|(go_at_call 196;refine(HQ.o _).mono ?_;rintro e w1 ⟨⟨t,rfl⟩,hb1⟩;obtain⟨hc1,jw⟩:=sG hb1)|(go_at_call 253;refine(HN.o _).mono ?_;rintro e w1 ⟨rfl,rfl⟩)|(go_at_call 254;refine(HO.o _).mono ?_;rintro e w1 ⟨rfl,rfl⟩));go_ret;exact⟨cZ (by rw[HR.o];simp[m2.o,p3.o]),(cS _)⟩
         |true=>
          go_enter func213,ntmps213;go_wp2_with (first|(go_at_call 196;refine(HQ.o _).mono ?_;rintro e w1 ⟨⟨t,rfl⟩,hb1⟩;obtain⟨hc1,jw⟩:=sG hb1)|(go_at_call 253;refine(HN.o _).mono ?_;rintro e w1 ⟨rfl,rfl⟩)|(go_at_call 254;refine(HO.o _).mono ?_;rintro e w1 ⟨rfl,rfl⟩));go_ret;exact⟨cZ (by rw[HR.o];simp[m2.o,p3.o]),(cS _)⟩
      |false=>
       have p3:=aa (show ¬op=3 by simpa using o3);cases o4:(op==4)with
       |true=>
        have p4:=aa (show op=4 by simpa using o4);cases z with
        |false=>
         go_enter func213,ntmps213;go_wp2_with (first|(go_at_call 196;refine(HQ.o _).mono ?_;rintro e w1 ⟨⟨t,rfl⟩,hb1⟩;obtain⟨hc1,jw⟩:=sG hb1)|(go_at_call 253;refine(HN.o _).mono ?_;rintro e w1 ⟨rfl,rfl⟩)|(go_at_call 254;refine(HO.o _).mono ?_;rintro e w1 ⟨rfl,rfl⟩));go_ret;exact⟨cZ (by rw[HR.o];simp[m2.o,p4.o]),(cS _)⟩
        |true=>
         cases b1 with
         |false=>
          go_enter func213,ntmps213;go_wp2_with (first|(go_at_call 196;refine(HQ.o _).mono ?_;rintro e w1 ⟨⟨t,rfl⟩,hb1⟩;obtain⟨hc1,jw⟩:=sG hb1)|(go_at_call 253;refine(HN.o _).mono ?_;rintro e w1 ⟨rfl,rfl⟩)|(go_at_call 254;refine(HO.o _).mono ?_;rintro e w1 ⟨rfl,rfl⟩));go_ret;exact⟨cZ (by rw[HR.o];simp[m2.o,p4.o]),(cS _)⟩
         |true=>
          go_enter func213,ntmps213;go_wp2_with (first|(go_at_call 196;refine(HQ.o _).mono ?_;rintro e w1 ⟨⟨t,rfl⟩,hb1⟩;obtain⟨hc1,jw⟩:=sG hb1)|(go_at_call 253;refine(HN.o _).mono ?_;rintro e w1 ⟨rfl,rfl⟩)|(go_at_call 254;refine(HO.o _).mono ?_;rintro e w1 ⟨rfl,rfl⟩));go_ret;exact⟨cZ (by rw[HR.o];simp[m2.o,p4.o]),(cS _)⟩
       |false=>
        have p4:=aa (show ¬op=4 by simpa using o4);cases o5:(op==5)with
        |true=>
         have p5:=aa (show op=5 by simpa using o5);cases z with
         |false=>
          go_enter func213,ntmps213;go_wp2_with (first|(go_at_call 196;refine(HQ.o _).mono ?_;rintro e w1 ⟨⟨t,rfl⟩,hb1⟩;obtain⟨hc1,jw⟩:=sG hb1)|(go_at_call 253;refine(HN.o _).mono ?_;rintro e w1 ⟨rfl,rfl⟩)|(go_at_call 254;refine(HO.o _).mono ?_;rintro e w1 ⟨rfl,rfl⟩));go_ret;exact⟨cZ (by rw[HR.o];simp[m2.o,p5.o]),(cS _)⟩
         |true=>
          cases b3 with
          |false=>
           go_enter func213,ntmps213;go_wp2_with (first|(go_at_call 196;refine(HQ.o _).mono ?_;rintro e w1 ⟨⟨t,rfl⟩,hb1⟩;obtain⟨hc1,jw⟩:=sG hb1)|(go_at_call 253;refine(HN.o _).mono ?_;rintro e w1 ⟨rfl,rfl⟩)|(go_at_call 254;refine(HO.o _).mono ?_;rintro e w1 ⟨rfl,rfl⟩));go_ret;exact⟨cZ (by rw[HR.o];simp[m2.o,p5.o]),(cS _)⟩
          |true=>
           go_enter func213,ntmps213;go_wp2_with (first|(go_at_call 196;refine(HQ.o _).mono ?_;rintro e w1 ⟨⟨t,rfl⟩,hb1⟩;obtain⟨hc1,jw⟩:=sG hb1)|(go_at_call 253;refine(HN.o _).mono ?_;rintro e w1 ⟨rfl,rfl⟩)|(go_at_call 254;refine(HO.o _).mono ?_;rintro e w1 ⟨rfl,rfl⟩));go_ret;exact⟨cZ (by rw[HR.o];simp[m2.o,p5.o]),(cS _)⟩
        |false=>
         have p5:=aa (show ¬op=5 by simpa using o5);cases o10:(op==10)with
         |true=>
          have Ya:=aa (show op=10 by simpa using o10);cases z with
          |false=>
           go_enter func213,ntmps213;go_wp2_with (first|(go_at_call 196;refine(HQ.o _).mono ?_;rintro e w1 ⟨⟨t,rfl⟩,hb1⟩;obtain⟨hc1,jw⟩:=sG hb1)|(go_at_call 253;refine(HN.o _).mono ?_;rintro e w1 ⟨rfl,rfl⟩)|(go_at_call 254;refine(HO.o _).mono ?_;rintro e w1 ⟨rfl,rfl⟩));go_ret;exact⟨cZ (by rw[HR.o];simp[m2.o,Ya.o]),(cS _)⟩
          |true=>
           cases b2 with
           |false=>
            go_enter func213,ntmps213;go_wp2_with (first|(go_at_call 196;refine(HQ.o _).mono ?_;rintro e w1 ⟨⟨t,rfl⟩,hb1⟩;obtain⟨hc1,jw⟩:=sG hb1)|(go_at_call 253;refine(HN.o _).mono ?_;rintro e w1 ⟨rfl,rfl⟩)|(go_at_call 254;refine(HO.o _).mono ?_;rintro e w1 ⟨rfl,rfl⟩));go_ret;exact⟨cZ (by rw[HR.o];simp[m2.o,Ya.o]),(cS _)⟩
           |true=>
            go_enter func213,ntmps213;go_wp2_with (first|(go_at_call 196;refine(HQ.o _).mono ?_;rintro e w1 ⟨⟨t,rfl⟩,hb1⟩;obtain⟨hc1,jw⟩:=sG hb1)|(go_at_call 253;refine(HN.o _).mono ?_;rintro e w1 ⟨rfl,rfl⟩)|(go_at_call 254;refine(HO.o _).mono ?_;rintro e w1 ⟨rfl,rfl⟩));go_ret;exact⟨cZ (by rw[HR.o];simp[m2.o,Ya.o]),(cS _)⟩
         |false=>
          have Ya:=aa (show ¬op=10 by simpa using o10);cases o11:(op==11)with
          |true=>
           have Yb:=aa (show op=11 by simpa using o11);cases z with
           |false=>
            go_enter func213,ntmps213;go_wp2_with (first|(go_at_call 196;refine(HQ.o _).mono ?_;rintro e w1 ⟨⟨t,rfl⟩,hb1⟩;obtain⟨hc1,jw⟩:=sG hb1)|(go_at_call 253;refine(HN.o _).mono ?_;rintro e w1 ⟨rfl,rfl⟩)|(go_at_call 254;refine(HO.o _).mono ?_;rintro e w1 ⟨rfl,rfl⟩));go_ret;exact⟨cZ (by rw[HR.o];simp[m2.o,Yb.o]),(cS _)⟩
           |true=>
            cases b2 with
            |false=>
             go_enter func213,ntmps213;go_wp2_with (first|(go_at_call 196;refine(HQ.o _).mono ?_;rintro e w1 ⟨⟨t,rfl⟩,hb1⟩;obtain⟨hc1,jw⟩:=sG hb1)|(go_at_call 253;refine(HN.o _).mono ?_;rintro e w1 ⟨rfl,rfl⟩)|(go_at_call 254;refine(HO.o _).mono ?_;rintro e w1 ⟨rfl,rfl⟩));go_ret;exact⟨cZ (by rw[HR.o];simp[m2.o,Yb.o]),(cS _)⟩
            |true=>
             go_enter func213,ntmps213;go_wp2_with (first|(go_at_call 196;refine(HQ.o _).mono ?_;rintro e w1 ⟨⟨t,rfl⟩,hb1⟩;obtain⟨hc1,jw⟩:=sG hb1)|(go_at_call 253;refine(HN.o _).mono ?_;rintro e w1 ⟨rfl,rfl⟩)|(go_at_call 254;refine(HO.o _).mono ?_;rintro e w1 ⟨rfl,rfl⟩));go_ret;exact⟨cZ (by rw[HR.o];simp[m2.o,Yb.o]),(cS _)⟩
          |false=>
           have Yb:=aa (show ¬op=11 by simpa using o11);cases ob with
           |false=>
            go_enter func213,ntmps213;go_wp2_with (first|(go_at_call 196;refine(HQ.o _).mono ?_;rintro e w1 ⟨⟨t,rfl⟩,hb1⟩;obtain⟨hc1,jw⟩:=sG hb1)|(go_at_call 253;refine(HN.o _).mono ?_;rintro e w1 ⟨rfl,rfl⟩)|(go_at_call 254;refine(HO.o _).mono ?_;rintro e w1 ⟨rfl,rfl⟩));go_ret;exact⟨cZ aP,(cS _)⟩
           |true=>
            cases z with
            |false=>
             go_enter func213,ntmps213;go_wp2_with (first|(go_at_call 196;refine(HQ.o _).mono ?_;rintro e w1 ⟨⟨t,rfl⟩,hb1⟩;obtain⟨hc1,jw⟩:=sG hb1)|(go_at_call 253;refine(HN.o _).mono ?_;rintro e w1 ⟨rfl,rfl⟩)|(go_at_call 254;refine(HO.o _).mono ?_;rintro e w1 ⟨rfl,rfl⟩));go_ret;exact⟨cZ aP,(cS _)⟩
            |true=>
             cases b2 with
             |false=>
              go_enter func213,ntmps213;go_wp2_with (first|(go_at_call 196;refine(HQ.o _).mono ?_;rintro e w1 ⟨⟨t,rfl⟩,hb1⟩;obtain⟨hc1,jw⟩:=sG hb1)|(go_at_call 253;refine(HN.o _).mono ?_;rintro e w1 ⟨rfl,rfl⟩)|(go_at_call 254;refine(HO.o _).mono ?_;rintro e w1 ⟨rfl,rfl⟩));go_ret;exact⟨cZ aP,(cS _)⟩
             |true=>
              go_enter func213,ntmps213;go_wp2_with (first|(go_at_call 196;refine(HQ.o _).mono ?_;rintro e w1 ⟨⟨t,rfl⟩,hb1⟩;obtain⟨hc1,jw⟩:=sG hb1)|(go_at_call 253;refine(HN.o _).mono ?_;rintro e w1 ⟨rfl,rfl⟩)|(go_at_call 254;refine(HO.o _).mono ?_;rintro e w1 ⟨rfl,rfl⟩));go_ret;exact⟨cZ aP,(cS _)⟩
end Go.Proofs.YtfppbjfnllhgcaaGreat
namespace Go.Proofs
open Go.Shelf
def D2:Go.Shelf.Ren:=⟨fun|8=>192|6=>241|n=>n,fun|22=>120|23=>9|25=>143|4=>4|3=>3|0=>0|n=>n,fun|n=>n⟩
theorem EF:Go.Proofs.SlLaysH.n8 prog D2:=by
 constructor;(case f6=>exact⟨Tryz.f241.name,by decide,Tryz.func241.trans (congrArg some ah)⟩);(case f8=>exact⟨Tryz.f192.name,by decide,Tryz.func192.trans (congrArg some ah)⟩);(all_goals first|kernel_rfl|(intro;kernel_rfl))
def xV:Go.Shelf.Ren:=⟨fun|8=>77|6=>124|n=>n,fun|22=>123|23=>150|25=>151|4=>4|3=>3|0=>0|n=>n,fun|n=>n⟩
theorem F4:Go.Proofs.SlLaysH0.n8 prog xV:=by
 constructor;(case f6=>exact⟨Tryz.f124.name,by decide,Tryz.func124.trans (congrArg some ah)⟩);(case f8=>exact⟨Tryz.f77.name,by decide,Tryz.func77.trans (congrArg some ah)⟩);(all_goals first|kernel_rfl|(intro;kernel_rfl))
def vW:Go.Shelf.Ren:=⟨fun|8=>122|6=>191|n=>n,fun|22=>67|23=>112|25=>210|4=>4|3=>3|0=>0|n=>n,fun|n=>n⟩
theorem D3:Go.Proofs.SlLaysH0.n8 prog vW:=by
 constructor;(case f6=>exact⟨Tryz.f191.name,by decide,Tryz.func191.trans (congrArg some ah)⟩);(case f8=>exact⟨Tryz.f122.name,by decide,Tryz.func122.trans (congrArg some ah)⟩);(all_goals first|kernel_rfl|(intro;kernel_rfl))
def xW:Go.Shelf.Ren:=⟨fun|8=>145|6=>214|n=>n,fun|22=>45|23=>47|25=>126|4=>4|3=>3|0=>0|n=>n,fun|n=>n⟩
theorem F5:Go.Proofs.SlLaysH0.n8 prog xW:=by
 constructor;(case f6=>exact⟨Tryz.f214.name,by decide,Tryz.func214.trans (congrArg some ah)⟩);(case f8=>exact⟨Tryz.f145.name,by decide,Tryz.func145.trans (congrArg some ah)⟩);(all_goals first|kernel_rfl|(intro;kernel_rfl))
end Go.Proofs
namespace Go.Proofs.YtfppbjfnllhgcaaGreat
section
open Go Go.RowKit Go.Proofs Sh Go.Shelf
section
def jT {α:Type} (P:Program) (g:Nat) (lb:Array Value) (R:Rel α) (p:α→Bool) (xs:List α) (w:World):Prop:=
 ∀ (W:World) (cs:List Value) (x:α),x∈xs→R.is W Any cs x→Below w w W→Calls P g (#[.agg cs.toArray]++lb) W fun e w'=>e= .returned (.bool (p x))∧Below W W w'
def AX {α:Type} (p:α→Bool) (xs:List α):Int:=match xs.findIdx? p with|some k=>(k:Int)|none=>-1
theorem vX {α:Type} (p:α→Bool) (y:α):∀ (xs:List α) (n:Nat),Lib.idxByFrom (fun _ y=>p y) y xs n=match xs.findIdx? p with|some k=>((n+k:Nat):Int)|none=>-1
 |[],n=>rfl
 |a :: l,n=>by
  unfold Lib.idxByFrom;rw[List.findIdx?_cons];by_cases h:p a=true
  (·simp[h]);have ih:=vX p y l (n+1);simp only[h,if_false,Bool.false_eq_true,ih];cases l.findIdx? p with
  |none=>rfl
  |some k=>
   show((n+1+k:Nat):Int)=((n+(k+1):Nat):Int);congr 1;omega
def Vu {α:Type} (p:α→Bool) (xs:List α) (i:Nat):Bool:=match xs[i]? with|some x=>p x|none=>false
theorem NS {α:Type} (p:α→Bool) (xs:List α):(aav xs.length).map (Vu p xs)=xs.map p:=by
 apply List.ext_getElem
 (·simp);intro i h1 h2;have hi:i<xs.length:=aF;simp[Vu,hi]
theorem Wb {α:Type} (p:α→Bool) (xs:List α):(aav xs.length).any (Vu p xs)=xs.any p:=by
 (have e:∀ {β:Type} (q:β→Bool) (l:List β),l.any q=(l.map q).any id:=fun q l=>by rw[List.any_map];rfl);rw[e,e p,NS]
theorem findIdx_map {α β:Type} (f:α→β) (p:β→Bool) (l:List α):(l.map f).findIdx? p=l.findIdx? fun x=>p (f x):=by
 rw[List.findIdx?_map];rfl
theorem Wc {α:Type} (p:α→Bool) (xs:List α):(aav xs.length).findIdx? (Vu p xs)=xs.findIdx? p:=by
 have h:=findIdx_map (Vu p xs) id (aav xs.length);have h2:=findIdx_map p id xs;rw[NS]at h;rw[h]at h2;exact h2
section
variable {P:Program} {ρ:Ren} {α:Type} {R:Rel α}
theorem NT {g:Nat} {lb:Array Value} {p:α→Bool} {xs:List α} {w:World} {A:Option Addr} (hp:jT P g lb R p xs w) {f:Nat→List Value} (hf:∀ W,Below w w W→∀ i (hi:i<xs.length),R.is W Any (f i) xs[i]):
 LB P g lb (fun i=> .agg (f i).toArray) (Vu p xs) (aav xs.length) w:=fun W i hi hb=>by
 have hi':i<xs.length:=List.mem_range.1 hi
 have e:Vu p xs i=p xs[i]:=by unfold Vu;rw[List.getElem?_eq_getElem hi']
 rw[e]
 exact(hp W (f i) xs[i] (aan hi') (hf W hb i hi') hb).mono fun e w' ⟨h1,h2⟩=>⟨h1,hb.trans (h2.mono hb.size)⟩
theorem pI (L:SlLaysH0.n8 P ρ) (aE:∀ w,(isAgg (ρ.t 23)).run P w= .ok true w) (zE:∀ w,(Go.sizeOf (ρ.t 23)).run P w= .ok R.k w) (p:α→Bool) (g:Nat) (lb:Array Value) (eg:∀ args w,(callFunc g args).run P w= .ok (.enter g args) w) (A:Option Addr) (c:Nat) (xs:List α) (w:World) (hp:jT P g lb R p xs w) (hbig:xs.length≤9223372036854775807) (hs:Sq R w Any A xs) (hne:xs≠[]):Calls P (ρ.f 8) #[bW A xs c,.func (.func g) #[] lb] w fun e w'=>e= .returned (.bool (xs.any p))∧Below w w w':=by
 obtain⟨f,h1,h2,h3,h4⟩:=hs.qb;have h:=Iw L R.k aE zE f h1 (Vu p xs) g lb eg A c (aav xs.length) w (NT (A:=A) hp fun W hb i hi=>R.keep (h4 i hi) (cB.cA hb)) (by simpa using hbig) h2 (fun e=>hne (aaj (by simpa using congrArg List.length e)));rw[List.length_range,Wb]at h;exact h
theorem IC (L:SlLaysH0.n6 P ρ) (aE:∀ w,(isAgg (ρ.t 23)).run P w= .ok true w) (zE:∀ w,(Go.sizeOf (ρ.t 23)).run P w= .ok R.k w) (p:α→Bool) (g:Nat) (lb:Array Value) (eg:∀ args w,(callFunc g args).run P w= .ok (.enter g args) w) (A:Option Addr) (c:Nat) (xs:List α) (w:World) (hp:jT P g lb R p xs w) (hbig:xs.length≤9223372036854775807) (hs:Sq R w Any A xs) (hne:xs≠[]):Calls P (ρ.f 6) #[bW A xs c,.func (.func g) #[] lb] w fun e w'=>e= .returned (bU (AX p xs))∧Below w w w':=by
 obtain⟨f,h1,h2,h3,h4⟩:=hs.qb;have h:=RT L R.k aE zE f h1 (Vu p xs) g lb eg A c (aav xs.length) w (NT (A:=A) hp fun W hb i hi=>R.keep (h4 i hi) (cB.cA hb)) (by simpa using hbig) h2 (fun e=>hne (aaj (by simpa using congrArg List.length e)));unfold Lib.idxBy at h;rw[List.length_range,vX,Wc]at h;simp only[Nat.zero_add]at h;exact h
end
theorem B4 (A:Option Addr) (c:Nat) (fv:Value) (w:World):Calls prog 124 #[bW A 0 c,fv] w fun e w'=>e= .returned (bU (-1))∧w=w':=by
 go_enter func124,ntmps124;go_wp2_with fail;refine wp_loop_rounds 1 ?_;rw[rounds_succ];go_wp2;go_ret;exact⟨rfl,rfl⟩
theorem vY (A:Option Addr) (c:Nat) (fv:Value) (w:World):Calls prog 77 #[bW A 0 c,fv] w fun e w'=>e= .returned (.bool false)∧w=w':=by
 go_enter func77,ntmps77;go_wp2_with (go_at_call 124;refine(B4 _ _ _ _).mono ?_;rintro e w' ⟨rfl,rfl⟩);go_ret;exact⟨rfl,rfl⟩
theorem D4 (p:_→Bool) (g:Nat) (lb:Array Value) (eg:∀ args w,(callFunc g args).run prog w= .ok (.enter g args) w) (A:Option Addr) (c:Nat) (xs:List pF) (w:World) (hp:jT prog g lb sA p xs w) (hbig:xs.length≤maxLen) (hs:Sq sA w Any A xs):Calls prog 77 #[bW A xs c,.func (.func g) #[] lb] w fun e w'=>e= .returned (.bool (xs.any p))∧Below w w w':=by
 cases xs with
 |nil=>exact(vY A c _ w).mono fun e w' ⟨he,hw⟩=>⟨he,hw▸aaf _ _⟩
 |cons a l=>exact pI (R:=sA) F4 Tryz.isAgg150 Tryz.sizeOf150 p g lb eg A c (a :: l) w hp aR hs ai
theorem B_ (A:Option Addr) (c:Nat) (fv:Value) (w:World):Calls prog 133 #[bW A 0 c,fv] w fun e w'=>e= .returned (bU (-1))∧w=w':=by
 go_enter func133,ntmps133;go_wp2_with fail;refine wp_loop_rounds 1 ?_;rw[rounds_succ];go_wp2;go_ret;exact⟨rfl,rfl⟩
theorem rN (A:Option Addr) (c:Nat) (fv:Value) (w:World):Calls prog 191 #[bW A 0 c,fv] w fun e w'=>e= .returned (bU (-1))∧w=w':=by
 go_enter func191,ntmps191;go_wp2_with fail;refine wp_loop_rounds 1 ?_;rw[rounds_succ];go_wp2;go_ret;exact⟨rfl,rfl⟩
theorem uO (A:Option Addr) (c:Nat) (fv:Value) (w:World):Calls prog 122 #[bW A 0 c,fv] w fun e w'=>e= .returned (.bool false)∧w=w':=by
 go_enter func122,ntmps122;go_wp2_with (go_at_call 191;refine(rN _ _ _ _).mono ?_;rintro e w' ⟨rfl,rfl⟩);go_ret;exact⟨rfl,rfl⟩
theorem oC (p:_→Bool) (g:Nat) (lb:Array Value) (eg:∀ args w,(callFunc g args).run prog w= .ok (.enter g args) w) (A:Option Addr) (c:Nat) (xs:List eX) (w:World) (hp:jT prog g lb jm p xs w) (hbig:xs.length≤maxLen) (hs:Sq jm w Any A xs):Calls prog 122 #[bW A xs c,.func (.func g) #[] lb] w fun e w'=>e= .returned (.bool (xs.any p))∧Below w w w':=by
 cases xs with
 |nil=>exact(uO A c _ w).mono fun e w' ⟨he,hw⟩=>⟨he,hw▸aaf _ _⟩
 |cons a l=>exact pI (R:=jm) D3 Tryz.isAgg112 Tryz.sizeOf112 p g lb eg A c (a :: l) w hp aR hs ai
theorem Ca (A:Option Addr) (c:Nat) (fv:Value) (w:World):Calls prog 214 #[bW A 0 c,fv] w fun e w'=>e= .returned (bU (-1))∧w=w':=by
 go_enter func214,ntmps214;go_wp2_with fail;refine wp_loop_rounds 1 ?_;rw[rounds_succ];go_wp2;go_ret;exact⟨rfl,rfl⟩
theorem vZ (A:Option Addr) (c:Nat) (fv:Value) (w:World):Calls prog 145 #[bW A 0 c,fv] w fun e w'=>e= .returned (.bool false)∧w=w':=by
 go_enter func145,ntmps145;go_wp2_with (go_at_call 214;refine(Ca _ _ _ _).mono ?_;rintro e w' ⟨rfl,rfl⟩);go_ret;exact⟨rfl,rfl⟩
theorem uy (p:_→Bool) (g:Nat) (lb:Array Value) (eg:∀ args w,(callFunc g args).run prog w= .ok (.enter g args) w) (A:Option Addr) (c:Nat) (xs:List cw) (w:World) (hp:jT prog g lb di p xs w) (hbig:xs.length≤maxLen) (hs:Sq di w Any A xs):Calls prog 145 #[bW A xs c,.func (.func g) #[] lb] w fun e w'=>e= .returned (.bool (xs.any p))∧Below w w w':=by
 cases xs with
 |nil=>exact(vZ A c _ w).mono fun e w' ⟨he,hw⟩=>⟨he,hw▸aaf _ _⟩
 |cons a l=>exact pI (R:=di) F5 Tryz.isAgg47 Tryz.sizeOf47 p g lb eg A c (a :: l) w hp aR hs ai
theorem EG {α:Type} {l:List α} {i:Nat} {d:α} (h:i<l.length):l.getD i d=l[i]:=by simp[h]
theorem Yc {α:Type} {l:List α} {i:Nat} {d:α} (h:l.length≤i):l.getD i d=d:=by simp[h]
theorem F6 (p:ByteArray→Bool) (g:Nat) (lb:Array Value) (eg:∀ args w,(callFunc g args).run prog w= .ok (.enter g args) w) (A:Option Addr) (c:Nat) (xs:List ByteArray) (w:World) (hp:∀ x∈xs,∀ W,Below w w W→Calls prog g (#[bV x]++lb) W fun e w'=>e= .returned (.bool (p x))∧∃ n,w'=W.drewN n) (hbig:xs.length≤maxLen) (hs:Sq iL w Any A xs):Calls prog 192 #[bW A xs c,.func (.func g) #[] lb] w fun e w'=>e= .returned (.bool (xs.any p))∧∃ n,w'=w.drewN n:=by
 cases xs with
 |nil=>exact(AnyE.slices_ContainsFunc_empty EF A c _ w).mono fun e w' ⟨he,hw⟩=>⟨he,0,hw⟩
 |cons a l=>
  obtain⟨css,h1,h2,h3⟩:=hs;(have hne:css≠[]:=fun e=>by rw[e]at h1;simp at h1);obtain⟨b,off,rfl,_,hlt,hc⟩:=h2 hne;have hgd:∀ i,(a :: l).getD i a∈a :: l:=fun i=>by
   by_cases hi:i<(a :: l).length
   (·rw[EG hi];exact aan hi);rw[Yc af];simp
  have hm:(aav (a :: l).length).map (fun i=>p ((a :: l).getD i a))=(a :: l).map p:=by
   apply List.ext_getElem
   (·simp);intro i h1 h2;have hi:i<(a :: l).length:=aF;simp only[List.getElem_map,List.getElem_range,EG hi]
  have han:(aav (a :: l).length).any (fun i=>p ((a :: l).getD i a))=(a :: l).any p:=by
   (have e:∀ {β:Type} (q:β→Bool) (l:List β),l.any q=(l.map q).any id:=fun q l=>by rw[List.any_map];rfl);rw[e,e p,hm]
  have h:=AnyE.slices_ContainsFunc EF (fun i=>bV ((a :: l).getD i a)) (fun i=>p ((a :: l).getD i a)) g lb eg b off (a :: l).length c (aav (a :: l).length) w (fun W i hb=>hp _ (hgd i) W hb) ai aR (fun j hj=>?_)
  (·rw[show(aav (a :: l).length).take (a :: l).length=aav (a :: l).length from List.take_of_length_le ai,han]at h;exact h);have hj':j<(a :: l).length:=(by simpa using hj);have La:j<css.length:=af;have h9:=h3 j _ _ (List.getElem?_eq_getElem La) (List.getElem?_eq_getElem hj');have e:css[j]=[bV (a :: l)[j]]:=h9;have h8:=hc j _ (List.getElem?_eq_getElem La) 0 (bV (a :: l)[j]) (by rw[e];rfl);have e3:(aav (a :: l).length)[j]! =j:=(by rw[getElem!_pos (aav (a :: l).length) j hj];simp);rw[e3,EG hj'];simpa [iL,mg]using h8
end
end
section
open Go Go.RowKit Kb Sh Go.Proofs
section
theorem zI:∀ (l:List cw) (k:Nat) (x:cw),l[k]? =some x→cT (l.take (k+1))=cT (l.take k)+cE x
 |[],k,x,h=>by simp at h
 |a :: l,0,x,h=>by simp at h;subst h;simp[cT]
 |a :: l,k+1,x,h=>by
  have ih:=zI l k x aK;simp only[aay,cT,ih];omega
theorem sH:∀ (l:List cw) (k:Nat) (x:cw),l[k]? =some x→iq (l.take (k+1))=max (iq (l.take k)) (iI x)
 |[],k,x,h=>by simp at h
 |a :: l,0,x,h=>by simp at h;subst h;simp[iq]
 |a :: l,k+1,x,h=>by
  have ih:=sH l k x aK;simp only[aay,iq,ih];omega
theorem xX:∀ (l:List cw) (k:Nat),cT (l.take k)≤cT l
 |[],k=>by simp
 |a :: l,0=>by simp[cT]
 |a :: l,k+1=>by
  have:=xX l k;simp only[aay,cT];omega
theorem xY:∀ (l:List cw) (k:Nat),iq (l.take k)≤iq l
 |[],k=>by simp
 |a :: l,0=>by simp[iq]
 |a :: l,k+1=>by
  have:=xY l k;simp only[aay,iq];omega
theorem dB:∀ x:cw,1≤cE x
 | .mk _ _ _ _ l=>by unfold cE;omega
theorem fN:∀ l:List cw,l.length≤cT l
 |[]=>by simp[cT]
 |x :: l=>by
  have h1:=dB x;have h2:=fN l;simp only[cT,List.length_cons];omega
theorem dP:∀ (l:List cw) (x:cw),x∈l→cE x≤cT l
 |[],x,h=>by simp at h
 |a :: l,x,h=>by
  unfold cT;rcases aas.1 h with rfl|h
  (·omega);have:=dP l x h;omega
def Ms (s:ByteArray):Prop:=s.size≤maxLen
mutual
def lZ:cw→Prop
 | .mk _ _ u n l=>Ms u∧Ms n∧Vv l
def Vv:List cw→Prop
 |[]=>True
 |x :: l=>lZ x∧Vv l
end
theorem Vv.mem:∀ {l:List cw},Vv l→∀ x∈l,lZ x
 |[],_,x,h=>by simp at h
 |a :: l,hs,x,h=>by
  unfold Vv at hs;rcases aas.1 h with rfl|h
  (·exact hs.1);exact Vv.mem hs.2 x h
theorem zJ:∀ l:List cw,lK l= !(l.any fun y=> !gK y)
 |[]=>rfl
 |x :: l=>by
  unfold lK;rw[zJ l,List.any_cons];cases gK x<;>cases (l.any fun y=> !gK y)<;>rfl
theorem gset {a w:World} {g:Nat} (h:a.grownBy w (some g)) (i:Nat) (u:Value):a.grownBy (w.setCell (bY g i) u) (some g):=
 ⟨h.os,h.tape,h.output,by simpa [World.setCell]using h.size,fun k hk hne=>(Below.heap_setCell w (bY g i) u k (by
  rintro rfl;exact hne rfl)).trans (h.block k hk hne)⟩
theorem Zf {a w:World} {row:Option Nat} (h:a.grownBy w row) (o:Obj):a.grownBy (w.alloc o) row:=h.trans (World.grownBy_alloc w o row)
theorem cB.NU {b:Nat} {w w':World} (h:w.grownBy w' (some b)):cB (fun k=>k≠b) w w':=⟨h.size,fun k hk hne=>h.block k hk (fun e=>hne bz)⟩
structure Ia (b c:Nat) (w w':World):Prop where
 cell:b_ w' b 0 (bU (c:Int))
 frz:w'.frozen? (bY b 0)=false
 lt:b<w'.heap.size
 turn:w.grownBy w' (some b)
theorem Ia.set {b c c':Nat} {w w':World} (h:Ia b c w w'):Ia b c' w (w'.setCell (bY b 0) (bU (c':Int))):=by
 obtain⟨h1,h2,h3,h4⟩:=h;exact⟨World.cell?_setCell_same _ _ _ h1,by simpa [go_sem]using h2,by simpa [World.setCell]using h3,gset h4 0 _⟩
theorem Ia.alloc {b c:Nat} {w w':World} (h:Ia b c w w') (o:Obj):Ia b c w (w'.alloc o):=by
 obtain⟨h1,h2,h3,h4⟩:=h;exact⟨(World.cell?_alloc_lt w' o (bY b 0) h3).trans h1,(((aaf _ w').alloc aac o).frozen (p:=bY b 0) h3).trans h2,by simp;omega,Zf h4 o⟩
theorem Ia.next {b c c':Nat} {w w' w'':World} (h:Ia b c w w') (k:Ia b c' w' w''):Ia b c' w w'':=⟨k.cell,k.frz,k.lt,h.turn.trans k.turn⟩
def tR (x:cw) (lv c b:Nat) (w:World) (e:Ending) (w':World):Prop:=
 ∃ c':Nat,e= .returned (.bool (decide (c+cE x≤200)&&decide (lv+iI x≤21)))∧c'≤201∧(c+cE x≤200∧lv+iI x≤21→c'=c+cE x)∧
  Ia b c' w w'
theorem Pd (N:Nat):∀ (x:cw),cE x≤N→∀ (cs:List Value) (b c lv:Nat) (w:World),cH w (fun k=>k≠b) cs x→Ia b c w w→c≤200→lv≤21→Calls prog 143 #[.agg cs.toArray,.pointer (bY b 0),bU (lv:Int)] w (tR x lv c b w):=by
 induction N with
 |zero=>intro x hx;have:=dB x;omega
 |succ N ih=>
  intro x hx cs b c lv w hI hat hc2 hlv;have Vw:=aa hat;obtain⟨hc,hf,hb,_⟩:=hat;obtain⟨op,n,unit,name,A,cp,args,rfl,rfl,hS⟩:=hI.parts;have vE:cE (.mk op n unit name args)=1+cT args:=aM;have hdE:iI (.mk op n unit name args)=1+iq args:=(by unfold iI;rfl);rw[vE]at hx;have HR:=aa (show ∀ e w',(∃ c':Nat,e= .returned (.bool (decide (c+(1+cT args)≤200)&&decide (lv+(1+iq args)≤21)))∧c'≤201∧(c+(1+cT args)≤200∧lv+(1+iq args)≤21→c'=c+(1+cT args))∧
   Ia b c' w w')→tR (.mk op n unit name args) lv c b w e w' from fun e w' h=>by unfold tR;rw[vE,hdE];exact h)
  generalize hP:tR (.mk op n unit name args) lv c b w=P at HR ⊢;clear hP hI vE hdE;have HS:=aa hS;have um:=aa ih;clear hS ih;have hbn:b≠w.heap.size:=af;have hbn2:w.heap.size≠b:=af;have d1:decide ((200:Int)<(c:Int)+1)=decide (200<c+1):=(by rw[decide_eq_decide];omega);have d2:decide ((20:Int)<(lv:Int))=decide (20<lv):=(by rw[decide_eq_decide];omega);by_cases h1:200<c+1
  (·have H1:=aa h1;rw[decide_eq_true h1]at d1;clear h1;go_enter func143,ntmps143;go_wp2;exact HR.o _ _ ⟨c+1,by rw[show decide (c+(1+cT args)≤200)=false by(have:=H1.o;simp;omega)];rfl,by omega,fun h=>by(have:=H1.o;omega),(Vw.o.set (c':=c+1)).alloc _⟩);rw[decide_eq_false h1]at d1;by_cases h2:20<lv
  (·have H2:=aa h2;rw[decide_eq_true h2]at d2;clear h2;go_enter func143,ntmps143;go_wp2;exact HR.o _ _ ⟨c+1,by rw[show decide (lv+(1+iq args)≤21)=false by(have:=H2.o;simp;omega),Bool.and_false];rfl,by omega,fun h=>by(have:=H2.o;omega),(Vw.o.set (c':=c+1)).alloc _⟩);rw[decide_eq_false h2]at d2;have h1':c+1≤200:=af;have h2':lv≤20:=af;clear h1 h2;go_enter func143,ntmps143;go_wp2_with fail;have HA1:=aa (show Ia b (c+1) w ((w.setCell (bY b 0) (bU ((c:Int)+1))).alloc (.cells #[bU op,bU n,bV unit,bV name,bW A args cp] 47))from(Vw.o.set (c':=c+1)).alloc _);generalize hW:((w.setCell (bY b 0) (bU ((c:Int)+1))).alloc (.cells #[bU op,bU n,bV unit,bV name,bW A args cp] 47))=W at HA1 ⊢;clear hW;go_loopw [25] (fun s wr=>∃ k:Nat,k≤args.length∧s=bU (k:Int)∧k≤200∧c+1+cT (args.take k)≤200∧lv+1+iq (args.take k)≤21∧Hid (Ia b (c+1+cT (args.take k)) w wr)) (fun s _=>args.length - (intOf s).toNat);(case atStart=>exact⟨0,aaG _,rfl,by omega,by simp[cT];omega,by simp[iq];omega,show Ia b (c+1+cT (args.take 0)) w W from by simpa [cT]using HA1.o⟩);obtain⟨k,hk,rfl,hk2,Vx,hd1,HA⟩:=hrel;by_cases hlt:k<args.length
  ·have HSk:=aa (HS.o.keep (cB.NU HA.o.turn));obtain⟨g,off,cs,rfl,hgb,zK,hex,cM⟩:=HSk.o.get hlt;have hx:args[k]? =some args[k]:=List.getElem?_eq_getElem hlt;have hxm:args[k]∈args:=aan hlt;generalize args[k]=y at hex hx hxm;(have Zg:cE y≤N:=by have:=dP args y hxm;omega);have HT:=aa (zI args k y hx);have HD:=aa (sH args k y hx);have Yd:=aa (xX args (k+1));have HLD:=aa (xY args (k+1));have hyp:=dB y;have hex0:=hex;obtain⟨op',n',unit',name',A',cp',args',rfl,rfl,_⟩:=hex.parts;have c0:b_ wr g (off+k*5) (bU op'):=cM 0 _ rfl;have c1:b_ wr g (off+k*5+1) (bU n'):=cM 1 _ rfl;have c2:b_ wr g (off+k*5+2) (bV unit'):=cM 2 _ rfl;have c3:b_ wr g (off+k*5+3) (bV name'):=cM 3 _ rfl;have c4:b_ wr g (off+k*5+4) (bW A' args' cp'):=cM 4 _ rfl;have HEX:=aa hex0;generalize hy:cw.mk op' n' unit' name' args'=y at HEX HT HD Zg hyp;generalize hq:cT (args.take k)=q at HA HT Vx;have HQ:=aa hq;have HY:=aa hy;have hq201:c+1+q≤200:=af;have HCALL:=aa (um.o y Zg [bU op',bU n',bV unit',bV name',bW A' args' cp'] b (c+1+q) (lv+1) (wr.alloc (.cells #[bU op',bU n',bV unit',bV name',bW A' args' cp'] 47)) (HEX.o.keep (cB.NU (World.grownBy_alloc wr _ _)))
    (by have h:=HA.o;exact⟨(h.alloc _).cell,(h.alloc _).frz,(h.alloc _).lt,World.grownBy.refl _ _⟩) hq201 af)
   clear cM hex hex0 hq hy hx hxm;go_wp2_with fail;refine(HCALL.o).mono ?_;rintro e w2 ⟨c',rfl,hc',hcc,hat⟩;have rY:=aa ((HA.o.alloc (.cells #[bU op',bU n',bV unit',bV name',bW A' args' cp'] 47)).next hat);have xM:=aa hcc;clear hat hcc;by_cases hr:c+1+q+cE y≤200∧lv+1+iI y≤21
   (·have hrb:(decide (c+1+q+cE y≤200)&&decide (lv+1+iI y≤21))=true:=(by simp[hr]);rw[hrb];have HRR:=aa hr;clear hr hrb;go_wp2;go_roundw;have e1:=xM.o HRR.o;have h3:=HRR.o;have hlen:=fN (args.take (k+1));rw[HT.o,List.length_take]at hlen;exact⟨k+1,by omega,by go_num,by omega,by rw[HT.o];omega,by rw[HD.o];omega,by rw[HT.o,show c+1+(q+cE y)=c' by omega];exact rY.o⟩;simp[intOf];omega);have hrb:(decide (c+1+q+cE y≤200)&&decide (lv+1+iI y≤21))=false:=au;rw[hrb];have HRR:=aa hr;clear hr hrb;go_wp2_with fail;have h3:=HRR.o;have t1:=HT.o;have t2:=HD.o;have t3:=Yd.o;have t4:=HLD.o;have t5:=HQ.o;have hno:¬(c+(1+cT args)≤200∧lv+(1+iq args)≤21):=af;exact HR.o _ _ ⟨c',by rw[show(decide (c+(1+cT args)≤200)&&decide (lv+(1+iq args)≤21))=false by simp;omega];rfl,hc',fun h=>absurd h hno,rY.o⟩
  (obtain rfl:k=args.length:=by omega);rw[List.take_length]at Vx hd1 HA;go_wp2;exact HR.o _ _ ⟨c+1+cT args,by rw[show(decide (c+(1+cT args)≤200)&&decide (lv+(1+iq args)≤21))=true by simp;omega];rfl,by omega,fun h=>by omega,HA.o⟩
theorem D5:∀ args w,(callFunc 212 args).run prog w= .ok (.enter 212 args) w:=enters_of func212 ah rfl
theorem LG (N:Nat):∀ (x:cw),cE x≤N→cE x≤1000000→lZ x→∀ (cs:List Value) (w:World),cH w Any cs x→Calls prog 144 #[.agg cs.toArray] w (lM (gK x) w):=by
 induction N with
 |zero=>intro x hx;have:=dB x;omega
 |succ N ih=>
  intro x hx hM hsm cs w hI;obtain⟨op,n,unit,name,A,cp,args,rfl,rfl,hS⟩:=hI.parts;have vE:cE (.mk op n unit name args)=1+cT args:=aM;have hsh:gK (.mk op n unit name args)=(qi op n unit name args.length&& !(args.any fun y=> !gK y)):=by
   (conv=>lhs;unfold gK);rw[zJ]
  rw[hsh];rw[vE]at hx hM;have hlen:=fN args;unfold lZ at hsm;obtain⟨hu,hnm,sD⟩:=hsm;have HN:=fun W=>R3 op n unit name A args.length cp W hu hnm;have Ye:∀ W,Below w w W→jT prog 212 #[] di (fun y=> !gK y) args W:=fun W hW V cs y hy hIy hV=>by
   have hny0:=dP args y hy;have Zg:cE y≤N:=af;have hny1:cE y≤1000000:=af;have HC:=aa (fun U (k:cH U Any cs y)=>ih y Zg hny1 (sD.mem y hy) cs U k);have HI:=aa hIy;have hcs:=di.len hIy;obtain⟨op',n',unit',name',A',cp',args',rfl,rfl,_⟩:=cH.parts hIy;generalize hy2:gK (.mk op' n' unit' name' args')=r at HC;clear ih hIy hcs hW hV;show Calls _ _ #[_] V fun e w'=>e= .returned (.bool (!gK (.mk op' n' unit' name' args')))∧Below V V w';rw[hy2];cases r<;>
    (go_enter func212,ntmps212
     go_wp2_with fail
     refine(HC.o _ (HI.o.keep (cB.cA (cS _)))).mono ?_
     rintro e w2 ⟨rfl,hb2⟩
     have dG:=aa (((aaf _ V).alloc aac _).trans (hb2.mono ai))
     clear hb2
     go_wp2_with fail
     go_ret
     exact⟨rfl,dG.o⟩)
  have hcon:=fun W (hb:Below w w W)=>uy (fun y=> !gK y) 212 #[] D5 A cp args W (Ye W hb) aH (hS.bZ hb);generalize qi op n unit name args.length=q at HN ⊢;generalize (args.any fun y=> !gK y)=r at hcon ⊢;have HNN:=aa HN;have xM:=aa hcon;clear HN hcon Ye ih hS hI hsh vE sD hlen hx hM;cases q with
  |false=>
   go_enter func144,ntmps144;go_wp2_with fail;refine(HNN.o _).mono ?_;rintro e w1 ⟨rfl,hb1⟩;have gT:=aa (((aaf _ w).alloc aac _).trans (hb1.mono ai));clear hb1;go_wp2;go_ret;exact⟨rfl,gT.o⟩
  |true=>
   cases r<;>
    (go_enter func144,ntmps144
     go_wp2_with fail
     refine(HNN.o _).mono ?_
     rintro e w1 ⟨rfl,hb1⟩
     obtain⟨hc1,jw⟩:=sG hb1
     have gT:=aa (((aaf _ w).alloc aac _).trans (hb1.mono ai))
     clear hb1
     go_wp2_with fail
     refine(xM.o _ gT.o).mono ?_
     rintro e w2 ⟨rfl,hb2⟩
     have dG:=aa (gT.o.trans (hb2.mono gT.o.size))
     clear hb2
     go_wp2_with fail
     go_ret
     exact⟨rfl,dG.o⟩)
theorem qm (x:cw) (cs:List Value) (w:World) (hI:cH w Any cs x) (hsm:lZ x):Calls prog 86 #[.agg cs.toArray] w (lM (fB x) w):=by
 have HI:=aa hI;obtain⟨op,n,unit,name,A,cp,args,hx,rfl,hS⟩:=hI.parts;have HCT:=aa (fun W b (k:cH W (fun k=>k≠b) [bU op,bU n,bV unit,bV name,bW A args cp] x) (hat:Ia b 0 W W)=>Pd (cE x) x aac _ b 0 1 W k hat af af);have hr:fB x=((decide (0+cE x≤200)&&decide (1+iI x≤21))&&gK x):=by
  unfold fB;rw[show decide (iI x≤20)=decide (1+iI x≤21) by rw[decide_eq_decide];omega,Nat.zero_add]
 rw[hr];have Ib:=aa (fun W (k:cH W Any [bU op,bU n,bV unit,bV name,bW A args cp] x) (h:cE x≤200)=>LG (cE x) x aac af hsm _ W k);clear hS hI hsm hr hx;generalize hd:(decide (0+cE x≤200)&&decide (1+iI x≤21))=d;generalize hs:gK x=s at Ib;have HD:=aa hd;clear hs hd;have H0:=aa (show cH ((w.alloc (.cells #[bU op,bU n,bV unit,bV name,bW A args cp] 47)).alloc (.cells #[bU 0] 3)) (fun k=>k≠w.heap.size+1) [bU op,bU n,bV unit,bV name,bW A args cp] x from
  ((HI.o.mono (S':=fun k=>k≠w.heap.size+1) (fun b hb _=>by omega)).keep (cB.cA (cS _))).keep (cB.cA (cS _)))
 have Vw:=aa (show Ia (w+1) 0 ((w.alloc (.cells #[bU op,bU n,bV unit,bV name,bW A args cp] 47)).alloc (.cells #[bU 0] 3)) ((w.alloc (.cells #[bU op,bU n,bV unit,bV name,bW A args cp] 47)).alloc (.cells #[bU 0] 3))from
  ⟨by rw[show w.heap.size+1=(w.alloc (.cells #[bU op,bU n,bV unit,bV name,bW A args cp] 47)).heap.size by simp,World.cell?_alloc_new];rfl,by simp[go_sem],by simp,World.grownBy.refl _ _⟩)
 cases d with
 |false=>
  go_enter func86,ntmps86;go_wp2_with fail;refine(HCT.o _ _ H0.o Vw.o).mono ?_;rintro e w1 ⟨c',rfl,_,_,hat⟩;rw[HD.o];have HB:=aa (show Below w w w1 from(((aaf _ w).alloc aac _).alloc ai _).grown hat.turn au (fun k hk=>by injection hk with hk;omega));clear hat;go_wp2;go_ret;exact⟨rfl,HB.o⟩
 |true=>
  go_enter func86,ntmps86;go_wp2_with fail;refine(HCT.o _ _ H0.o Vw.o).mono ?_;rintro e w1 ⟨c',rfl,_,_,hat⟩;rw[HD.o];have HB:=aa (show Below w w w1 from(((aaf _ w).alloc aac _).alloc ai _).grown hat.turn au (fun k hk=>by injection hk with hk;omega));have hk:∀ o,w1.cell? (bY w o)=((w.alloc (.cells #[bU op,bU n,bV unit,bV name,bW A args cp] 47)).alloc (.cells #[bU 0] 3)).cell? (bY w o):=fun o=>hat.turn.cell_far (bY w o) au ai;have c0:b_ w1 w 0 (bU op):=(hk 0).trans ax;have c1:b_ w1 w 1 (bU n):=(hk 1).trans ax;have c2:b_ w1 w 2 (bV unit):=(hk 2).trans ax;have c3:b_ w1 w 3 (bV name):=(hk 3).trans ax;have c4:b_ w1 w 4 (bW A args cp):=(hk 4).trans ax;(have hn2:cE x≤200:=by have:=HD.o;simp at this;exact this.1);clear hat hk;go_wp2_with fail;refine(Ib.o _ (HI.o.keep (cB.cA HB.o)) hn2).mono ?_;rintro e w2 ⟨rfl,hb2⟩;have dG:=aa (HB.o.trans (hb2.mono HB.o.size));clear hb2;go_wp2;go_ret;exact⟨rfl,dG.o⟩
end
end
section
open Go Go.RowKit Go.Proofs Sh Kb
def okF:List ByteArray→Bool→List K_→Bool
 |_,ok,[]=>ok
 |l,ok,(n,b) :: us=>okF (n :: l) (ok&&b&&dY n&& !l.contains n) us
def gh:List ByteArray→List K_→List ByteArray
 |l,[]=>l
 |l,(n,_) :: us=>gh (n :: l) us
theorem okF_eq:∀ (us:List K_) (l:List ByteArray) (ok:Bool),okF l ok us=(ok&&pU l us)
 |[],l,ok=>by simp[okF,pU]
 |(n,b) :: us,l,ok=>by
  simp only[okF,pU,okF_eq us];cases ok<;>cases b<;>cases dY n<;>cases l.contains n<;>simp
theorem uP:∀ (us vs:List K_) (l:List ByteArray) (ok:Bool),okF l ok (us++vs)=okF (gh l us) (okF l ok us) vs
 |[],_,_,_=>rfl
 |(n,b) :: us,vs,l,ok=>by
  simp only[List.cons_append,okF,gh];exact uP us vs _ _
theorem pW:∀ (us vs:List K_) (l:List ByteArray),gh l (us++vs)=gh (gh l us) vs
 |[],_,_=>rfl
 |(n,b) :: us,vs,l=>by
  simp only[List.cons_append,gh];exact pW us vs _
theorem fK:∀ (us:List K_) (l:List ByteArray),(gh l us).length=us.length+l.length
 |[],l=>by simp[gh]
 |(n,b) :: us,l=>by
  simp only[gh,fK us,List.length_cons];omega
theorem v_:∀ (us:List K_) (l:List ByteArray),l.Nodup→pU l us=true→(gh l us).Nodup
 |[],l,hl,_=>hl
 |(n,b) :: us,l,hl,h=>by
  simp only[pU,aag]at h;refine v_ us (n :: l) ?_ h.2;rw[List.nodup_cons];exact⟨by simpa using h.1.2,hl⟩
def ir (W0 w:World) (g m:Nat) (l:List ByteArray) (ok:Bool) (us:List K_):Prop:=iZ w g m (gh l us) (okF l ok us)∧Two g m W0 w
theorem Two.keeps {g m:Nat} {w w':World} (h:Two g m w w'):cB (fun b=>b≠g∧b≠m) w w':=⟨h.2.2.2.1,fun b hb hs=>h.2.2.2.2 b hb hs.1 hs.2⟩
theorem Two.cell {g m:Nat} {w w':World} (h:Two g m w w') {b o:Nat} (hb:b<w.heap.size) (h1:b≠g) (h2:b≠m):w'.cell? (bY b o)=w.cell? (bY b o):=World.cell?_of_block (a:=bY b o) (h.2.2.2.2 b hb h1 h2)
theorem iZ.bZ {w w':World} {g m:Nat} {l:List ByteArray} {ok:Bool} (h:iZ w g m l ok) (hb:Below w w w'):iZ w' g m l ok:=⟨h.1.bZ hb h.1.lt,h.2.1.bZ hb h.2.1.lt,h.2.2⟩
theorem ir.start {W0:World} {g m:Nat} {l:List ByteArray} {ok:Bool} (h:iZ W0 g m l ok):ir W0 W0 g m l ok []:=⟨h,Two.refl _ _ _⟩
theorem ir.one {W0 w w1 w':World} {e:Ending} {g m:Nat} {l:List ByteArray} {ok good rt b:Bool} {us:List K_} {nm:ByteArray} (h:ir W0 w g m l ok us) (hb:Below w w w1) (hg:(good&&rt)=b) (hu:V7 g m (gh l us) nm (okF l ok us&&good&&rt&&dY nm&& !(gh l us).contains nm) w1 e w'):ir W0 w' g m l ok (us++[(nm,b)]):=by
 obtain⟨_,h1,h2⟩:=hu;refine⟨?_,h.2.trans ((Two.cA hb).trans h2)⟩;rw[pW,uP];simp only[gh,okF];rw[← hg,show(okF l ok us&&(good&&rt))=(okF l ok us&&good&&rt) by rw[Bool.and_assoc]];exact h1
theorem iB {α β:Type} (f:α→β) {xs:List α} {k:Nat} (h:k<xs.length):(xs.take (k+1)).map f=(xs.take k).map f++[f xs[k]]:=by
 rw[List.take_add_one,List.getElem?_eq_getElem h,List.map_append];rfl
def NV (g m:Nat) (l:List ByteArray) (ok:Bool) (us:List K_) (w:World) (e:Ending) (w':World):Prop:=e= .returned (.tuple #[])∧iZ w' g m (gh l us) (okF l ok us)∧Two g m w w'
structure R4 (x:fR):Prop where
 name:Ms x.name
 unit:Ms x.unit
 port:Ms x.port
structure Wd (x:iT):Prop where
 name:Ms x.name
 unit:Ms x.unit
 kind:Ms x.kind
structure We (x:dZ):Prop where
 name:Ms x.name
 unit:Ms x.unit
 rows:x.rows.length≤maxLen
structure wh (x:eX):Prop where
 name:Ms x.name
 unit:Ms x.unit
structure R5 (x:cL):Prop where
 name:Ms x.name
 params:x.params.length≤maxLen
 each:∀ p∈x.params,wh p
 body:lZ x.body
structure Zh (x:fD):Prop where
 name:Ms x.name
 unit:Ms x.unit
 kY:lZ x.kY
structure Zi (x:mY):Prop where
 name:Ms x.name
 unit:Ms x.unit
structure Wf (x:kP):Prop where
 name:Ms x.name
 unit:Ms x.unit
structure Cb (x:pF):Prop where
 inp:(∀ s∈x.inp,Ms s)∧x.inp.length≤maxLen
 o:(∀ s∈x.o,Ms s)∧x.o.length≤maxLen
 name:Ms x.name
 cells:(∀ s∈x.cells,Ms s)∧x.cells.length≤maxLen
structure R6 (x:fW):Prop where
 kind:Ms x.kind
 steps:x.steps.length≤maxLen
 each:∀ s∈x.steps,Cb s
structure gj (s:cK):Prop where
 name:Ms s.name
 imports:∀ x∈s.imports,R4 x
 inputs:∀ x∈s.inputs,Wd x
 tables:∀ x∈s.tables,We x
 funcs:∀ x∈s.funcs,R5 x
 cells:∀ x∈s.cells,Zh x
 ei:∀ x∈s.ei,Zi x
 stores:∀ x∈s.stores,Wf x
 cI:∀ x∈s.cI,R6 x
 len:(uses s).length+s.cI.length≤1000000000000
structure Lit (s:cK):Prop where
 sm:gj s
 uses:(uses s).length≤10000000
 names:(xU s).length≤1000000000
 ID:s.cI.length≤10000000
 Wh:s.tables.length≤10000000
 Zj:s.funcs.length≤10000000
 Zk:s.cells.length≤10000000
 tables:∀ t∈s.tables,t.rows.length≤1000000000
 cI:∀ r∈s.cI,r.steps.length≤1000000000∧∀ y∈r.steps,y.inp.length≤1000000000∧y.o.length≤1000000000∧y.cells.length≤1000000000
 funcs:∀ f∈s.funcs,cE f.body≤1000000∧f.params.length≤1000000000
 cells:∀ c∈s.cells,cE c.kY≤1000000
section
def mB (s:ByteArray):Nat:=s.size+1
mutual
def mE:cw→Nat
 | .mk _ _ u n l=>u.size+n.size+mEL l+6
def mEL:List cw→Nat
 |[]=>0
 |x :: l=>mE x+mEL l
end
def wj (x:fR):Nat:=x.name.size+x.unit.size+x.port.size+1
def Cc (x:iT):Nat:=x.name.size+x.unit.size+x.kind.size+1
def R7 (x:D1):Nat:=1
def Ce (x:dZ):Nat:=x.name.size+x.unit.size+(x.rows.map R7).sum+1
def Cf (x:eX):Nat:=x.name.size+x.unit.size+1
def IE (x:cL):Nat:=x.name.size+(x.params.map Cf).sum+mE x.body+1
def IG (x:fD):Nat:=x.name.size+x.unit.size+mE x.kY+1
def II (x:mY):Nat:=x.name.size+x.unit.size+1
def Cg (x:kP):Nat:=x.name.size+x.unit.size+1
def IJ (x:pF):Nat:=(x.inp.map mB).sum+(x.o.map mB).sum+x.name.size+(x.cells.map mB).sum+1
def wm (x:fW):Nat:=x.kind.size+(x.steps.map IJ).sum+1
def R8 (s:cK):Nat:=s.name.size+(s.imports.map wj).sum+(s.inputs.map Cc).sum+(s.tables.map Ce).sum+(s.funcs.map IE).sum+(s.cells.map IG).sum+(s.ei.map II).sum+(s.stores.map Cg).sum+(s.cI.map wm).sum+1
theorem NW:∀ l:List cw,mEL l=(l.map mE).sum
 |[]=>by simp[mEL]
 |x :: l=>by simp[mEL,NW l]
end
end
open Go Go.RowKit Go.Proofs Sh Kb Go.ChangeShapes Go.WideShapes Go.Deep Go.ChangeAt
section
set_option maxRecDepth 100000
abbrev jx {H:Type} (enc:TypeId×Value→H) (W:World) (n:Nat) (t:TypeId) (cs:List Value) (y:DataW H×List MemPlace):Prop:=DataW.trod enc prog W 0 (fun _=>true) true n t cs=some y
theorem zM {α:Type} {Q:Nat→α→Prop}:∀ (n:Nat),(∀ i,i<n→∃ x,Q i x)→∃ l:List α,l.length=n∧∀ i (h:i<l.length),Q i l[i]
 |0,_=>⟨[],rfl,fun i h=>absurd h (Nat.not_lt_zero _)⟩
 |n+1,h=>by
  obtain⟨l,hl,hq⟩:=zM n (fun i hi=>h i af);obtain⟨x,hx⟩:=h n af;refine⟨l++[x],by simp[hl],fun i hi=>?_⟩;by_cases e:i<l.length
  (·rw[List.getElem_append_left e];exact hq i e);(have:i=n:=by simp at hi;omega);subst this;rw[List.getElem_append_right af];simpa [hl]using hx
theorem R9 {H:Type} (d:DataW H):1≤Rows.uptoBulk d:=by
 cases d with
 |lit l=>cases l<;>simp[Rows.uptoBulk]
 |_=>simp[Rows.uptoBulk]
theorem IK {H:Type}:∀ (l:List Nat) (ds:List (DataW H)),l.length=ds.length→(∀ (i:Nat) (x:Nat) (d:DataW H),l[i]? =some x→ds[i]? =some d→x≤Rows.uptoBulk d)→l.sum≤Rows.uptoBulkAll ds
 |[],_,_,_=>by simp
 |x :: l,[],h,_=>by simp at h
 |x :: l,d :: ds,h,hi=>by
  have h0:=hi 0 x d rfl rfl;have h1:=IK l ds aK fun i x d hx hd=>hi (i+1) x d (by simpa using hx) (by simpa using hd);simp only[List.sum_cons,Rows.uptoBulkAll];omega
section
variable {H:Type} {enc:TypeId×Value→H} {W:World} {fuel n:Nat} {cs:List Value} {y:DataW H×List MemPlace}
theorem iF {α:Type} (R:Rel α) (m:α→Nat) {t e:TypeId} (ht:Tryz.prog.underlying t=some (.slice e)) (hk:Tryz.prog.cellsOf e=R.k) (hk0:0<R.k) (He:∀ n,n<fuel→∀ cs y,jx enc W n e cs y→∃ x,R.is W Any cs x∧m x≤Rows.uptoBulk y.1) (h:jx enc W fuel t cs y):∃ A c xs,cs=[.slice A xs.length c]∧Sq R W Any A xs∧(xs.map m).sum+1≤Rows.uptoBulk y.1∧xs.length≤maxLen:=by
 rcases DataW.trod_slice ht h with⟨rfl,rfl⟩|⟨a,len,cap,elems,rest,n',hn,rfl,rfl,hb,hl,hm,hlen,hel,hsp,hns⟩
 (·exact⟨none,0,[],rfl,Sq.nil,by simp[Rows.uptoBulk],aaG _⟩);have hQ:∀ i,i<len→∃ p:List Value×α,W.cells? 0 (a.add (i*R.k)) R.k=some p.1∧R.is W Any p.1 p.2∧∀ d,(elems.map (·.1))[i]? =some d→m p.2≤Rows.uptoBulk d:=fun i hi=>by
  have h1:=hel i hi;rw[List.getElem?_eq_getElem af,hk]at h1;obtain⟨cs',hc,ht'⟩:=Option.bind_eq_some_iff.1 h1;obtain⟨x,hx,hmx⟩:=He n' af cs' _ ht';refine⟨(cs',x),hc,hx,fun d hd=>?_⟩;rw[List.getElem?_map,List.getElem?_eq_getElem af]at hd;obtain rfl:=Option.some.inj hd;exact hmx
 obtain⟨l,F7,hq⟩:=zM len hQ;have hsum:((l.map (·.2)).map m).sum≤Rows.uptoBulkAll (elems.map (·.1)):=IK _ _ (by simp[F7,hlen]) fun i x d hx hd=>by
  rw[List.getElem?_map,List.getElem?_map]at hx;obtain⟨z,hz,rfl⟩:=aaH.1 hx;obtain⟨p,hp,rfl⟩:=aaH.1 hz;obtain⟨hi,e⟩:=List.getElem?_eq_some_iff.1 hp;have:=(hq i hi).2.2 d hd;rw[e]at this;exact this
 refine⟨some a,cap,l.map (·.2),by simp[F7],⟨l.map (·.1),by simp,fun hne=>?_,fun j cs x hc hx=>?_⟩,by simp only[Rows.uptoBulk];omega,by simp;omega⟩
 ·have h0:0<l.length:=by
   cases l with
   |nil=>exact absurd rfl hne
   |cons p r=>simp
  obtain⟨_,cM,hat⟩:=World.cells?_some (hq 0 h0).1;have hc0:=hat 0 hk0;rw[List.getElem?_eq_getElem af]at hc0;obtain⟨b,off,spot⟩:=a;have hspot:spot=none:=(by simpa [Addr.add]using World.cell?_spot hc0);subst hspot;refine⟨b,off,rfl,trivial,by simpa [Addr.add_lit]using block_lt_of_cell hc0,fun j cs hj i v hv=>?_⟩;rw[List.getElem?_map]at hj;obtain⟨p,hp,rfl⟩:=aaH.1 hj;obtain⟨hi,e⟩:=List.getElem?_eq_some_iff.1 hp;obtain⟨_,cM,hat⟩:=World.cells?_some (hq j hi).1;rw[e]at cM hat;have:=hat i (by rw[← cM];exact(List.getElem?_eq_some_iff.1 hv).1);rw[hv,Addr.add_lit,Addr.add_lit]at this;exact this
 rw[List.getElem?_map]at hc hx;obtain⟨p,hp,rfl⟩:=aaH.1 hc;rw[hp]at hx;obtain rfl:=Option.some.inj hx;obtain⟨hi,e⟩:=List.getElem?_eq_some_iff.1 hp;have:=(hq j hi).2.1;rw[e]at this;exact this
theorem d_ {a b:Value} {l m:List Value} (h:a :: l=b :: m):a=b∧True:=⟨List.head_eq_of_cons_eq h,trivial⟩
theorem dw {fs:Array Field} {xs:List (DataW H×List MemPlace)} {i o:Nat} {T:TypeId} {seg:List Value} (hf:∀ (i:Nat) (f:Field),fs[i]? =some f→DataW.trod enc prog W 0 (fun _=>true) true n f.type ((cs.drop f.offset).take (Tryz.prog.cellsOf f.type))=xs[i]?) (hi:fs[i]?.map (fun f=>(f.type,f.offset))=some (T,o):=by rfl) (hk:Tryz.prog.cellsOf T=seg.length:=by kernel_rfl) (hs:(cs.drop o).take seg.length=seg:=by rfl) (hy:xs[i]? =some y:=by rfl):jx enc W n T seg y:=by
 obtain⟨f,hff,e⟩:=aaH.1 hi;obtain⟨rfl,rfl⟩:=Prod.mk.inj e;have:=hf i f hff;rw[hk,hs,hy]at this;exact this
theorem fA (h:jx enc W fuel 9 cs y):∃ s,cs=[bV s]∧s.size+1≤Rows.uptoBulk y.1:=by
 obtain⟨s,rfl,rfl,_⟩:=DataW.trod_string underlying9 h;exact⟨s,rfl,by simp[Rows.uptoBulk]⟩
theorem jq (h:jx enc W fuel 3 cs y):∃ s,cs=[bU s]∧1≤Rows.uptoBulk y.1:=by
 obtain⟨s,rfl,_⟩:=DataW.trod_int underlying3 h;exact⟨s,rfl,R9 _⟩
theorem open_strs (h:jx enc W fuel 120 cs y):∃ A c xs,cs=[.slice A xs.length c]∧Sq iL W Any A xs∧(xs.map mB).sum+1≤Rows.uptoBulk y.1∧xs.length≤maxLen:=
 iF iL mB underlying120 ah ak (fun n _ cs y h=>by
  obtain⟨s,rfl,hb⟩:=fA h;exact⟨s,rfl,hb⟩) h
theorem IL (h:jx enc W fuel 192 cs y):∃ x:fR,qT.is W Any cs x∧wj x≤Rows.uptoBulk y.1:=by
 obtain⟨xs,n,hn,rfl,hl,hlen,hf⟩:=DataW.trod_struct underlying192 h
 match xs,hlen with
 |[y0,y1,y2,y3,y4,y5],_=>
  rw[show Tryz.prog.cellsOf 192=6 by kernel_rfl]at hl
  match cs,hl with
  |[u0,u1,u2,u3,u4,u5],_=>
   have h0:jx enc W n 9 [u0] y0:=dw hf (i:=0);have h1:jx enc W n 9 [u1] y1:=dw hf (i:=1);have h2:jx enc W n 3 [u2] y2:=dw hf (i:=2);have h3:jx enc W n 3 [u3] y3:=dw hf (i:=3);have h4:jx enc W n 9 [u4] y4:=dw hf (i:=4);have h5:jx enc W n 3 [u5] y5:=dw hf (i:=5);obtain⟨s0,e0,b0⟩:=fA h0;obtain⟨s1,e1,b1⟩:=fA h1;obtain⟨s2,e2,b2⟩:=jq h2;obtain⟨s3,e3,b3⟩:=jq h3;obtain⟨s4,e4,b4⟩:=fA h4;obtain⟨s5,e5,b5⟩:=jq h5;simp only[Rows.uptoBulk,List.map_cons,List.map_nil,Rows.uptoBulkAll];obtain⟨rfl⟩:=d_ e0;obtain⟨rfl⟩:=d_ e1;obtain⟨rfl⟩:=d_ e2;obtain⟨rfl⟩:=d_ e3;obtain⟨rfl⟩:=d_ e4;obtain⟨rfl⟩:=d_ e5;exact⟨⟨s0,s1,s2,s3,s4,s5⟩,rfl,by unfold wj;(try dsimp only);omega⟩
theorem LH (h:jx enc W fuel 102 cs y):∃ x:iT,qU.is W Any cs x∧Cc x≤Rows.uptoBulk y.1:=by
 obtain⟨xs,n,hn,rfl,hl,hlen,hf⟩:=DataW.trod_struct underlying102 h
 match xs,hlen with
 |[y0,y1,y2],_=>
  rw[show Tryz.prog.cellsOf 102=3 by kernel_rfl]at hl
  match cs,hl with
  |[u0,u1,u2],_=>
   have h0:jx enc W n 9 [u0] y0:=dw hf (i:=0);have h1:jx enc W n 9 [u1] y1:=dw hf (i:=1);have h2:jx enc W n 9 [u2] y2:=dw hf (i:=2);obtain⟨s0,e0,b0⟩:=fA h0;obtain⟨s1,e1,b1⟩:=fA h1;obtain⟨s2,e2,b2⟩:=fA h2;simp only[Rows.uptoBulk,List.map_cons,List.map_nil,Rows.uptoBulkAll];obtain⟨rfl⟩:=d_ e0;obtain⟨rfl⟩:=d_ e1;obtain⟨rfl⟩:=d_ e2;exact⟨⟨s0,s1,s2⟩,rfl,by unfold Cc;(try dsimp only);omega⟩
theorem R_ (h:jx enc W fuel 114 cs y):∃ x:D1,LD.is W Any cs x∧R7 x≤Rows.uptoBulk y.1:=by
 obtain⟨xs,n,hn,rfl,hl,hlen,hf⟩:=DataW.trod_struct underlying114 h
 match xs,hlen with
 |[y0,y1],_=>
  rw[show Tryz.prog.cellsOf 114=2 by kernel_rfl]at hl
  match cs,hl with
  |[u0,u1],_=>
   have h0:jx enc W n 3 [u0] y0:=dw hf (i:=0);have h1:jx enc W n 3 [u1] y1:=dw hf (i:=1);obtain⟨s0,e0,b0⟩:=jq h0;obtain⟨s1,e1,b1⟩:=jq h1;simp only[Rows.uptoBulk,List.map_cons,List.map_nil,Rows.uptoBulkAll];obtain⟨rfl⟩:=d_ e0;obtain⟨rfl⟩:=d_ e1;exact⟨⟨s0,s1⟩,rfl,by unfold R7;(try dsimp only);omega⟩
theorem LI (h:jx enc W fuel 112 cs y):∃ x:eX,jm.is W Any cs x∧Cf x≤Rows.uptoBulk y.1:=by
 obtain⟨xs,n,hn,rfl,hl,hlen,hf⟩:=DataW.trod_struct underlying112 h
 match xs,hlen with
 |[y0,y1],_=>
  rw[show Tryz.prog.cellsOf 112=2 by kernel_rfl]at hl
  match cs,hl with
  |[u0,u1],_=>
   have h0:jx enc W n 9 [u0] y0:=dw hf (i:=0);have h1:jx enc W n 9 [u1] y1:=dw hf (i:=1);obtain⟨s0,e0,b0⟩:=fA h0;obtain⟨s1,e1,b1⟩:=fA h1;simp only[Rows.uptoBulk,List.map_cons,List.map_nil,Rows.uptoBulkAll];obtain⟨rfl⟩:=d_ e0;obtain⟨rfl⟩:=d_ e1;exact⟨⟨s0,s1⟩,rfl,by unfold Cf;(try dsimp only);omega⟩
theorem Pe (h:jx enc W fuel 194 cs y):∃ x:mY,BW.is W Any cs x∧II x≤Rows.uptoBulk y.1:=by
 obtain⟨xs,n,hn,rfl,hl,hlen,hf⟩:=DataW.trod_struct underlying194 h
 match xs,hlen with
 |[y0,y1,y2],_=>
  rw[show Tryz.prog.cellsOf 194=3 by kernel_rfl]at hl
  match cs,hl with
  |[u0,u1,u2],_=>
   have h0:jx enc W n 9 [u0] y0:=dw hf (i:=0);have h1:jx enc W n 9 [u1] y1:=dw hf (i:=1);have h2:jx enc W n 3 [u2] y2:=dw hf (i:=2);obtain⟨s0,e0,b0⟩:=fA h0;obtain⟨s1,e1,b1⟩:=fA h1;obtain⟨s2,e2,b2⟩:=jq h2;simp only[Rows.uptoBulk,List.map_cons,List.map_nil,Rows.uptoBulkAll];obtain⟨rfl⟩:=d_ e0;obtain⟨rfl⟩:=d_ e1;obtain⟨rfl⟩:=d_ e2;exact⟨⟨s0,s1,s2⟩,rfl,by unfold II;(try dsimp only);omega⟩
theorem LJ (h:jx enc W fuel 196 cs y):∃ x:kP,uM.is W Any cs x∧Cg x≤Rows.uptoBulk y.1:=by
 obtain⟨xs,n,hn,rfl,hl,hlen,hf⟩:=DataW.trod_struct underlying196 h
 match xs,hlen with
 |[y0,y1,y2],_=>
  rw[show Tryz.prog.cellsOf 196=3 by kernel_rfl]at hl
  match cs,hl with
  |[u0,u1,u2],_=>
   have h0:jx enc W n 9 [u0] y0:=dw hf (i:=0);have h1:jx enc W n 9 [u1] y1:=dw hf (i:=1);have h2:jx enc W n 3 [u2] y2:=dw hf (i:=2);obtain⟨s0,e0,b0⟩:=fA h0;obtain⟨s1,e1,b1⟩:=fA h1;obtain⟨s2,e2,b2⟩:=jq h2;simp only[Rows.uptoBulk,List.map_cons,List.map_nil,Rows.uptoBulkAll];obtain⟨rfl⟩:=d_ e0;obtain⟨rfl⟩:=d_ e1;obtain⟨rfl⟩:=d_ e2;exact⟨⟨s0,s1,s2⟩,rfl,by unfold Cg;(try dsimp only);omega⟩
theorem LK (h:jx enc W fuel 63 cs y):∃ A c xs,cs=[.slice A xs.length c]∧Sq LD W Any A xs∧(xs.map R7).sum+1≤Rows.uptoBulk y.1∧xs.length≤maxLen:=
 iF LD R7 underlying63 ah ak (fun n _ cs y h=>R_ h) h
theorem IM (h:jx enc W fuel 67 cs y):∃ A c xs,cs=[.slice A xs.length c]∧Sq jm W Any A xs∧(xs.map Cf).sum+1≤Rows.uptoBulk y.1∧xs.length≤maxLen:=
 iF jm Cf underlying67 ah ak (fun n _ cs y h=>LI h) h
theorem EH:∀ (fuel:Nat) {cs:List Value} {y:DataW H×List MemPlace},jx enc W fuel 47 cs y→∃ x:cw,cH W Any cs x∧mE x≤Rows.uptoBulk y.1:=by
 intro fuel;induction fuel using Nat.strongRecOn with
 |ind fuel ih=>
  intro cs y h
  have ihL:∀ (k:Nat) cs y,k<fuel→jx enc W k 45 cs y→∃ A c xs,cs=[.slice A xs.length c]∧Sq di W Any A xs∧(xs.map mE).sum+1≤Rows.uptoBulk y.1∧xs.length≤maxLen:=fun k cs y hk h=>
   iF di mE underlying45 ah ak (fun n hn cs y h=>ih n af h) h
  obtain⟨xs,n,hn,rfl,hl,hlen,hf⟩:=DataW.trod_struct underlying47 h
  match xs,hlen with
  |[y0,y1,y2,y3,y4],_=>
   rw[show Tryz.prog.cellsOf 47=5 by kernel_rfl]at hl
   match cs,hl with
   |[u0,u1,u2,u3,u4],_=>
    have h0:jx enc W n 3 [u0] y0:=dw hf (i:=0);have h1:jx enc W n 3 [u1] y1:=dw hf (i:=1);have h2:jx enc W n 9 [u2] y2:=dw hf (i:=2);have h3:jx enc W n 9 [u3] y3:=dw hf (i:=3);have h4:jx enc W n 45 [u4] y4:=dw hf (i:=4);obtain⟨s0,e0,b0⟩:=jq h0;obtain⟨s1,e1,b1⟩:=jq h1;obtain⟨s2,e2,b2⟩:=fA h2;obtain⟨s3,e3,b3⟩:=fA h3;obtain⟨A4,c4,s4,e4,k4,b4,m4⟩:=ihL n _ _ af h4;simp only[Rows.uptoBulk,List.map_cons,List.map_nil,Rows.uptoBulkAll];obtain⟨rfl⟩:=d_ e0;obtain⟨rfl⟩:=d_ e1;obtain⟨rfl⟩:=d_ e2;obtain⟨rfl⟩:=d_ e3;obtain⟨rfl⟩:=d_ e4;exact⟨.mk s0 s1 s2 s3 s4,cH.of k4,by rw[mE,NW];omega⟩
theorem LL (h:jx enc W fuel 65 cs y):∃ x:dZ,mG.is W Any cs x∧Ce x≤Rows.uptoBulk y.1:=by
 obtain⟨xs,n,hn,rfl,hl,hlen,hf⟩:=DataW.trod_struct underlying65 h
 match xs,hlen with
 |[y0,y1,y2],_=>
  rw[show Tryz.prog.cellsOf 65=3 by kernel_rfl]at hl
  match cs,hl with
  |[u0,u1,u2],_=>
   have h0:jx enc W n 9 [u0] y0:=dw hf (i:=0);have h1:jx enc W n 9 [u1] y1:=dw hf (i:=1);have h2:jx enc W n 63 [u2] y2:=dw hf (i:=2);obtain⟨s0,e0,b0⟩:=fA h0;obtain⟨s1,e1,b1⟩:=fA h1;obtain⟨A2,c2,s2,e2,k2,b2,m2⟩:=LK h2;simp only[Rows.uptoBulk,List.map_cons,List.map_nil,Rows.uptoBulkAll];obtain⟨rfl⟩:=d_ e0;obtain⟨rfl⟩:=d_ e1;obtain⟨rfl⟩:=d_ e2;exact⟨⟨s0,s1,s2⟩,⟨A2,c2,rfl,k2⟩,by unfold Ce;(try dsimp only);omega⟩
theorem Pf (h:jx enc W fuel 69 cs y):∃ x:cL,gR.is W Any cs x∧IE x≤Rows.uptoBulk y.1:=by
 obtain⟨xs,n,hn,rfl,hl,hlen,hf⟩:=DataW.trod_struct underlying69 h
 match xs,hlen with
 |[y0,y1,y2],_=>
  rw[show Tryz.prog.cellsOf 69=7 by kernel_rfl]at hl
  match cs,hl with
  |[u0,u1,u2,u3,u4,u5,u6],_=>
   have h0:jx enc W n 9 [u0] y0:=dw hf (i:=0);have h1:jx enc W n 67 [u1] y1:=dw hf (i:=1);have h2:jx enc W n 47 [u2,u3,u4,u5,u6] y2:=dw hf (i:=2);obtain⟨s0,e0,b0⟩:=fA h0;obtain⟨A1,c1,s1,e1,k1,b1,m1⟩:=IM h1;obtain⟨s2,k2,b2⟩:=EH _ h2;simp only[Rows.uptoBulk,List.map_cons,List.map_nil,Rows.uptoBulkAll];obtain⟨rfl⟩:=d_ e0;obtain⟨rfl⟩:=d_ e1;exact⟨⟨s0,s1,s2⟩,⟨A1,c1,_,rfl,k1,k2⟩,by unfold IE;(try dsimp only);omega⟩
theorem Pg (h:jx enc W fuel 49 cs y):∃ x:fD,m_.is W Any cs x∧IG x≤Rows.uptoBulk y.1:=by
 obtain⟨xs,n,hn,rfl,hl,hlen,hf⟩:=DataW.trod_struct underlying49 h
 match xs,hlen with
 |[y0,y1,y2],_=>
  rw[show Tryz.prog.cellsOf 49=7 by kernel_rfl]at hl
  match cs,hl with
  |[u0,u1,u2,u3,u4,u5,u6],_=>
   have h0:jx enc W n 9 [u0] y0:=dw hf (i:=0);have h1:jx enc W n 9 [u1] y1:=dw hf (i:=1);have h2:jx enc W n 47 [u2,u3,u4,u5,u6] y2:=dw hf (i:=2);obtain⟨s0,e0,b0⟩:=fA h0;obtain⟨s1,e1,b1⟩:=fA h1;obtain⟨s2,k2,b2⟩:=EH _ h2;simp only[Rows.uptoBulk,List.map_cons,List.map_nil,Rows.uptoBulkAll];obtain⟨rfl⟩:=d_ e0;obtain⟨rfl⟩:=d_ e1;exact⟨⟨s0,s1,s2⟩,⟨_,rfl,k2⟩,by unfold IG;(try dsimp only);omega⟩
theorem Ph (h:jx enc W fuel 150 cs y):∃ x:pF,sA.is W Any cs x∧IJ x≤Rows.uptoBulk y.1:=by
 obtain⟨xs,n,hn,rfl,hl,hlen,hf⟩:=DataW.trod_struct underlying150 h
 match xs,hlen with
 |[y0,y1,y2,y3,y4,y5],_=>
  rw[show Tryz.prog.cellsOf 150=6 by kernel_rfl]at hl
  match cs,hl with
  |[u0,u1,u2,u3,u4,u5],_=>
   have h0:jx enc W n 3 [u0] y0:=dw hf (i:=0);have h1:jx enc W n 120 [u1] y1:=dw hf (i:=1);have h2:jx enc W n 120 [u2] y2:=dw hf (i:=2);have h3:jx enc W n 9 [u3] y3:=dw hf (i:=3);have h4:jx enc W n 120 [u4] y4:=dw hf (i:=4);have h5:jx enc W n 3 [u5] y5:=dw hf (i:=5);obtain⟨s0,e0,b0⟩:=jq h0;obtain⟨A1,c1,s1,e1,k1,b1,m1⟩:=open_strs h1;obtain⟨A2,c2,s2,e2,k2,b2,m2⟩:=open_strs h2;obtain⟨s3,e3,b3⟩:=fA h3;obtain⟨A4,c4,s4,e4,k4,b4,m4⟩:=open_strs h4;obtain⟨s5,e5,b5⟩:=jq h5;simp only[Rows.uptoBulk,List.map_cons,List.map_nil,Rows.uptoBulkAll];obtain⟨rfl⟩:=d_ e0;obtain⟨rfl⟩:=d_ e1;obtain⟨rfl⟩:=d_ e2;obtain⟨rfl⟩:=d_ e3;obtain⟨rfl⟩:=d_ e4;obtain⟨rfl⟩:=d_ e5;exact⟨⟨s0,s1,s2,s3,s4,s5⟩,⟨A1,c1,A2,c2,A4,c4,rfl,k1,k2,k4⟩,by unfold IJ;(try dsimp only);omega⟩
theorem LM (h:jx enc W fuel 123 cs y):∃ A c xs,cs=[.slice A xs.length c]∧Sq sA W Any A xs∧(xs.map IJ).sum+1≤Rows.uptoBulk y.1∧xs.length≤maxLen:=
 iF sA IJ underlying123 ah ak (fun n _ cs y h=>Ph h) h
theorem IP (h:jx enc W fuel 125 cs y):∃ x:fW,nV.is W Any cs x∧wm x≤Rows.uptoBulk y.1:=by
 obtain⟨xs,n,hn,rfl,hl,hlen,hf⟩:=DataW.trod_struct underlying125 h
 match xs,hlen with
 |[y0,y1],_=>
  rw[show Tryz.prog.cellsOf 125=2 by kernel_rfl]at hl
  match cs,hl with
  |[u0,u1],_=>
   have h0:jx enc W n 9 [u0] y0:=dw hf (i:=0);have h1:jx enc W n 123 [u1] y1:=dw hf (i:=1);obtain⟨s0,e0,b0⟩:=fA h0;obtain⟨A1,c1,s1,e1,k1,b1,m1⟩:=LM h1;simp only[Rows.uptoBulk,List.map_cons,List.map_nil,Rows.uptoBulkAll];obtain⟨rfl⟩:=d_ e0;obtain⟨rfl⟩:=d_ e1;exact⟨⟨s0,s1⟩,⟨A1,c1,rfl,k1⟩,by unfold wm;(try dsimp only);omega⟩
theorem F8 (h:jx enc W fuel 22 cs y):∃ A c xs,cs=[.slice A xs.length c]∧Sq qT W Any A xs∧(xs.map wj).sum+1≤Rows.uptoBulk y.1∧xs.length≤maxLen:=
 iF qT wj underlying22 ah ak (fun n _ cs y h=>IL h) h
theorem IQ (h:jx enc W fuel 23 cs y):∃ A c xs,cs=[.slice A xs.length c]∧Sq qU W Any A xs∧(xs.map Cc).sum+1≤Rows.uptoBulk y.1∧xs.length≤maxLen:=
 iF qU Cc underlying23 ah ak (fun n _ cs y h=>LH h) h
theorem IU (h:jx enc W fuel 24 cs y):∃ A c xs,cs=[.slice A xs.length c]∧Sq mG W Any A xs∧(xs.map Ce).sum+1≤Rows.uptoBulk y.1∧xs.length≤maxLen:=
 iF mG Ce underlying24 ah ak (fun n _ cs y h=>LL h) h
theorem LN (h:jx enc W fuel 25 cs y):∃ A c xs,cs=[.slice A xs.length c]∧Sq gR W Any A xs∧(xs.map IE).sum+1≤Rows.uptoBulk y.1∧xs.length≤maxLen:=
 iF gR IE underlying25 ah ak (fun n _ cs y h=>Pf h) h
theorem LO (h:jx enc W fuel 26 cs y):∃ A c xs,cs=[.slice A xs.length c]∧Sq m_ W Any A xs∧(xs.map IG).sum+1≤Rows.uptoBulk y.1∧xs.length≤maxLen:=
 iF m_ IG underlying26 ah ak (fun n _ cs y h=>Pg h) h
theorem LP (h:jx enc W fuel 27 cs y):∃ A c xs,cs=[.slice A xs.length c]∧Sq BW W Any A xs∧(xs.map II).sum+1≤Rows.uptoBulk y.1∧xs.length≤maxLen:=
 iF BW II underlying27 ah ak (fun n _ cs y h=>Pe h) h
theorem IV (h:jx enc W fuel 28 cs y):∃ A c xs,cs=[.slice A xs.length c]∧Sq uM W Any A xs∧(xs.map Cg).sum+1≤Rows.uptoBulk y.1∧xs.length≤maxLen:=
 iF uM Cg underlying28 ah ak (fun n _ cs y h=>LJ h) h
theorem F9 (h:jx enc W fuel 29 cs y):∃ A c xs,cs=[.slice A xs.length c]∧Sq nV W Any A xs∧(xs.map wm).sum+1≤Rows.uptoBulk y.1∧xs.length≤maxLen:=
 iF nV wm underlying29 ah ak (fun n _ cs y h=>IP h) h
theorem Zl (h:jx enc W fuel 31 cs y):∃ (ls:j6) (s:cK),cs=dU ls s∧eo W Any ls s∧R8 s≤Rows.uptoBulk y.1:=by
 obtain⟨xs,n,hn,rfl,hl,hlen,hf⟩:=DataW.trod_struct underlying31 h
 match xs,hlen with
 |[y0,y1,y2,y3,y4,y5,y6,y7,y8],_=>
  rw[show Tryz.prog.cellsOf 31=9 by kernel_rfl]at hl
  match cs,hl with
  |[u0,u1,u2,u3,u4,u5,u6,u7,u8],_=>
   have h0:jx enc W n 9 [u0] y0:=dw hf (i:=0);have h1:jx enc W n 22 [u1] y1:=dw hf (i:=1);have h2:jx enc W n 23 [u2] y2:=dw hf (i:=2);have h3:jx enc W n 24 [u3] y3:=dw hf (i:=3);have h4:jx enc W n 25 [u4] y4:=dw hf (i:=4);have h5:jx enc W n 26 [u5] y5:=dw hf (i:=5);have h6:jx enc W n 27 [u6] y6:=dw hf (i:=6);have h7:jx enc W n 28 [u7] y7:=dw hf (i:=7);have h8:jx enc W n 29 [u8] y8:=dw hf (i:=8);obtain⟨s0,e0,b0⟩:=fA h0;obtain⟨A1,c1,s1,e1,k1,b1,m1⟩:=F8 h1;obtain⟨A2,c2,s2,e2,k2,b2,m2⟩:=IQ h2;obtain⟨A3,c3,s3,e3,k3,b3,m3⟩:=IU h3;obtain⟨A4,c4,s4,e4,k4,b4,m4⟩:=LN h4;obtain⟨A5,c5,s5,e5,k5,b5,m5⟩:=LO h5;obtain⟨A6,c6,s6,e6,k6,b6,m6⟩:=LP h6;obtain⟨A7,c7,s7,e7,k7,b7,m7⟩:=IV h7;obtain⟨A8,c8,s8,e8,k8,b8,m8⟩:=F9 h8;simp only[Rows.uptoBulk,List.map_cons,List.map_nil,Rows.uptoBulkAll];obtain⟨rfl⟩:=d_ e0;obtain⟨rfl⟩:=d_ e1;obtain⟨rfl⟩:=d_ e2;obtain⟨rfl⟩:=d_ e3;obtain⟨rfl⟩:=d_ e4;obtain⟨rfl⟩:=d_ e5;obtain⟨rfl⟩:=d_ e6;obtain⟨rfl⟩:=d_ e7;obtain⟨rfl⟩:=d_ e8;exact⟨⟨A1,c1,A2,c2,A3,c3,A4,c4,A5,c5,A6,c6,A7,c7,A8,c8⟩,⟨s0,s1,s2,s3,s4,s5,s6,s7,s8⟩,rfl,⟨k1,k2,k3,k4,k5,k6,k7,k8⟩,by unfold R8;(try dsimp only);omega⟩
end
end
end Go.Proofs.YtfppbjfnllhgcaaGreat
namespace Sh
open Kb
theorem Sa (a b:ByteArray):(a==b)=decide (a=b):=by
 cases a with
 |mk x=>
  cases b with
  |mk y=>
   have h:((ByteArray.mk x)==(ByteArray.mk y))=(x==y):=rfl;rw[h];by_cases e:x=y
   (·subst e;simp);have e2:¬ByteArray.mk x=ByteArray.mk y:=fun k=>e (by injection k);rw[decide_eq_false e2];simpa using e
instance lawfulBA:LawfulBEq ByteArray where
 eq_of_beq h:=by rw[Sa]at h;exact of_decide_eq_true h
 rfl:=fun {a}=>by rw[Sa];simp
theorem Pj {α:Type} {l:List α} (h:l.Nodup) {i j:Nat} (hi:i<l.length) (hj:j<l.length) (e:l[i]=l[j]):i=j:=by
 have hp:=List.pairwise_iff_getElem.1 h;rcases Nat.lt_trichotomy i j with q|q|q
 (·exact absurd e (hp i j hi hj q))
 (·exact q);exact absurd e.symm (hp j i hj hi q)
def iu (u:ByteArray):List Int:=(jI u).2
theorem sI:∀ {seen:List ByteArray} {us:List K_},pU seen us=true→us.all (·.2)=true∧(∀ u∈us,dY u.1=true)∧(us.map (·.1)).Nodup∧∀ u∈us,u.1∉seen
 |seen,[],_=>by simp
 |seen,(n,b) :: l,h=>by
  simp only[pU,aag]at h;obtain⟨⟨⟨h1,h2⟩,h3⟩,h4⟩:=h;obtain⟨k1,k2,k3,k4⟩:=sI h4;have h3':n∉seen:=(by simpa using h3);refine⟨?_,?_,?_,?_⟩
  (·simp only[List.all_cons,h1,k1,Bool.and_self])
  ·intro u hu;rcases aas.1 hu with rfl|hu
   (·exact h2);exact k2 u hu
  (·rw[List.map_cons,List.nodup_cons];refine⟨fun hm=>?_,k3⟩;obtain⟨u,hu,e⟩:=aat.1 hm;exact k4 u hu (by rw[e];simp));intro u hu;rcases aas.1 hu with rfl|hu
  (·exact h3');exact fun q=>k4 u hu (List.mem_cons_of_mem _ q)
theorem F_:∀ {seen:List ByteArray} {us:List K_},us.all (·.2)=true→(∀ u∈us,dY u.1=true)→(us.map (·.1)).Nodup→(∀ u∈us,u.1∉seen)→pU seen us=true
 |seen,[],_,_,_,_=>rfl
 |seen,(n,b) :: l,h1,h2,h3,h4=>by
  simp only[List.all_cons,aag]at h1;rw[List.map_cons,List.nodup_cons]at h3;have h5:=h4 (n,b) ai;have ih:=F_ (seen:=n :: seen) (us:=l) h1.2 (fun u hu=>h2 u (List.mem_cons_of_mem _ hu)) h3.2 (fun u hu q=>by
   rcases aas.1 q with q|q
   (·exact h3.1 (aat.2 ⟨u,hu,q⟩));exact h4 u (List.mem_cons_of_mem _ hu) q)
  simp only[pU,aag];refine⟨⟨⟨h1.1,h2 (n,b) ai⟩,?_⟩,ih⟩;simpa using h5
theorem uQ (s:cK):fV s=true↔dY s.name=true∧pU [] (uses s)=true∧(uses s).length+s.cI.length≤100∧pU [] (s.cI.map fun x=>(x.kind,fZ x))=true:=by
 unfold fV;simp only[aag,decide_eq_true_eq];constructor
 (·rintro⟨⟨⟨h1,h2⟩,h3⟩,h4⟩;exact⟨h1,h2,h3,h4⟩);rintro⟨h1,h2,h3,h4⟩;exact⟨⟨⟨h1,h2⟩,h3⟩,h4⟩
def hasK (l:List fW) (k:ByteArray):Prop:=∃ y∈l,y.kind=k
instance (l:List fW) (k:ByteArray):Decidable (hasK l k):=by unfold hasK;infer_instance
end Sh
namespace Sh
open Kb Go.Lib
def Bd (n:Nat) (l:List Tok):Prop:=l.length≤n∧∀ t∈l,t.text.size≤1000
theorem Bd.nil:Bd 0 []:=⟨by simp,by simp⟩
theorem Bd.one {t:Tok} (h:t.text.size≤1000):Bd 1 [t]:=⟨by simp,fun x hx=>by rw[List.mem_singleton.1 hx];exact h⟩
theorem Bd.add {n m:Nat} {l k:List Tok} (h:Bd n l) (h':Bd m k):Bd (n+m) (l++k):=
 ⟨by rw[List.length_append];exact Nat.add_le_add h.1 h'.1,fun t ht=>(aar.1 ht).elim (h.2 t) (h'.2 t)⟩
theorem Bd.cons {n:Nat} {t:Tok} {l:List Tok} (h:t.text.size≤1000) (h':Bd n l):Bd (1+n) (t :: l):=(Bd.one h).add h'
theorem Bd.le {n m:Nat} {l:List Tok} (h:Bd n l) (hm:n≤m):Bd m l:=⟨aaC h.1 hm,h.2⟩
theorem tS {s:ByteArray} (h:dY s=true):s.size≤20:=by
 unfold dY kD at h;have e:s.data.toList.length=s.size:=ai;cases hl:s.data.toList with
 |nil=>rw[hl]at e;simp at e;omega
 |cons c r=>
  rw[hl]at h e;simp at h e;omega
theorem lN {s:ByteArray} (h:jJ s=true):s.size=0:=by unfold jJ at h;simpa using h
theorem oD {s:ByteArray} (h:cR s=true):s.size≤40:=by
 have e:s.data.toList.length=s.size:=ai;unfold cR jI at h;cases hl:s.data.toList with
 |nil=>rw[hl]at e;simp at e;omega
 |cons c r=>
  rw[hl]at h e;unfold gF at h;by_cases hle:(c :: r).length≤40
  (·omega);simp only[if_neg hle]at h;simp at h
theorem Ch {l:List ByteArray} {a b:Nat} (h:ez l a b=true):l.length≤b∧∀ s∈l,dY s=true:=by
 unfold ez at h;simp only[aag,decide_eq_true_eq,List.all_eq_true]at h;exact⟨h.1.2,h.2⟩
theorem IW (k:Int):(shapeOf k).word.length≤1000∧(shapeOf k).in1≤100∧(shapeOf k).V2≤100:=by
 unfold shapeOf
 repeat' split
 all_goals decide
structure Sb (s:cK):Prop where
 name:dY s.name=true
 imports:∀ x∈s.imports,dY x.name=true∧(cR x.unit&&gL x)=true
 inputs:∀ x∈s.inputs,dY x.name=true∧(cR x.unit&&jC x)=true
 ei:∀ x∈s.ei,dY x.name=true∧(cR x.unit&&eG x.amount)=true
 stores:∀ x∈s.stores,dY x.name=true∧(cR x.unit&&nG x)=true
 tables:∀ x∈s.tables,dY x.name=true∧gG x=true
 funcs:∀ x∈s.funcs,dY x.name=true∧mZ x=true
 cells:∀ x∈s.cells,dY x.name=true∧nR x=true
 cI:∀ x∈s.cI,dY x.kind=true∧fZ x=true
 len:(uses s).length+s.cI.length≤100
theorem iC {s:cK} (h:fV s=true):Sb s:=by
 obtain⟨h1,h2,h3,h4⟩:=(uQ s).1 h;obtain⟨k1,k2,_,_⟩:=sI h2;obtain⟨r1,r2,_,_⟩:=sI h4;have key:∀ u∈uses s,dY u.1=true∧u.2=true:=fun u hu=>⟨k2 u hu,List.all_eq_true.1 k1 u hu⟩;have Ga:∀ x∈s.cI,dY x.kind=true∧fZ x=true:=fun x hx=>
  have hm:(x.kind,fZ x)∈s.cI.map fun x=>(x.kind,fZ x):=aat.2 ⟨x,hx,rfl⟩
  ⟨r2 _ hm,List.all_eq_true.1 r1 _ hm⟩
 refine⟨h1,fun x hx=>key (x.name,cR x.unit&&gL x) ?_,fun x hx=>key (x.name,cR x.unit&&jC x) ?_,fun x hx=>key (x.name,cR x.unit&&eG x.amount) ?_,fun x hx=>key (x.name,cR x.unit&&nG x) ?_,
  fun x hx=>key (x.name,gG x) ?_,fun x hx=>key (x.name,mZ x) ?_,fun x hx=>key (x.name,nR x) ?_,Ga,h3⟩
 all_goals
  simp only[uses,gP,iA,aar,aat]
 (·exact .inl (.inl (.inl (.inl ⟨x,hx,rfl⟩))))
 (·exact .inl (.inl (.inl (.inr ⟨x,hx,rfl⟩))))
 (·exact .inl (.inl (.inr ⟨x,hx,rfl⟩)))
 (·exact .inl (.inr ⟨x,hx,rfl⟩))
 (·exact .inr (.inl (.inl ⟨x,hx,rfl⟩)))
 (·exact .inr (.inl (.inr ⟨x,hx,rfl⟩)));exact .inr (.inr ⟨x,hx,rfl⟩)
end Sh
namespace Sh
open Kb
theorem data_append (a b:ByteArray):(a++b).data.toList=a.data.toList++b.data.toList:=by simp[ByteArray.data_append]
theorem eW (s:ByteArray):s.data.toList.length=s.size:=by simp
theorem jL {s:cK} (R:Sb s) (hn:((uses s).map (·.1)).Nodup) (hk:(s.cI.map (·.kind)).Nodup):fV s=true:=by
 refine(uQ s).2 ⟨R.name,F_ ?_ ?_ hn ai,R.len,F_ ?_ ?_ ?_ ai⟩
 ·rw[List.all_eq_true];intro u hu;simp only[uses,gP,iA,aar,aat]at hu;rcases hu with(((⟨x,hx,rfl⟩|⟨x,hx,rfl⟩)|⟨x,hx,rfl⟩)|⟨x,hx,rfl⟩)|((⟨x,hx,rfl⟩|⟨x,hx,rfl⟩)|⟨x,hx,rfl⟩)
  (·exact(R.imports x hx).2)
  (·exact(R.inputs x hx).2)
  (·exact(R.ei x hx).2)
  (·exact(R.stores x hx).2)
  (·exact(R.tables x hx).2)
  (·exact(R.funcs x hx).2);exact(R.cells x hx).2
 ·intro u hu;simp only[uses,gP,iA,aar,aat]at hu;rcases hu with(((⟨x,hx,rfl⟩|⟨x,hx,rfl⟩)|⟨x,hx,rfl⟩)|⟨x,hx,rfl⟩)|((⟨x,hx,rfl⟩|⟨x,hx,rfl⟩)|⟨x,hx,rfl⟩)
  (·exact(R.imports x hx).1)
  (·exact(R.inputs x hx).1)
  (·exact(R.ei x hx).1)
  (·exact(R.stores x hx).1)
  (·exact(R.tables x hx).1)
  (·exact(R.funcs x hx).1);exact(R.cells x hx).1
 (·rw[List.all_eq_true];intro u hu;obtain⟨x,hx,rfl⟩:=aat.1 hu;exact(R.cI x hx).2)
 (·intro u hu;obtain⟨x,hx,rfl⟩:=aat.1 hu;exact(R.cI x hx).1);rw[List.map_map];exact hk
theorem sJ {s:cK} (h:fV s=true):((uses s).map (·.1)).Nodup∧(s.cI.map (·.kind)).Nodup:=by
 obtain⟨h1,h2,h3,h4⟩:=(uQ s).1 h;refine⟨(sI h2).2.2.1,?_⟩;have:=(sI h4).2.2.1;rw[List.map_map]at this;exact this
end Sh
namespace Go.Proofs
open Go.Shelf
def AY:Go.Shelf.Ren:=⟨fun|6=>133|n=>n,fun|22=>25|23=>69|25=>218|3=>3|0=>0|4=>4|n=>n,fun|n=>n⟩
theorem IX:Go.Proofs.SlLaysH0.n6 prog AY:=by
 constructor;(case f6=>exact⟨Tryz.f133.name,by decide,Tryz.func133.trans (congrArg some ah)⟩);(all_goals first|kernel_rfl|(intro;kernel_rfl))
def xZ:Go.Shelf.Ren:=⟨fun|6=>191|n=>n,fun|22=>67|23=>112|25=>210|3=>3|0=>0|4=>4|n=>n,fun|n=>n⟩
theorem Gb:Go.Proofs.SlLaysH0.n6 prog xZ:=by
 constructor;(case f6=>exact⟨Tryz.f191.name,by decide,Tryz.func191.trans (congrArg some ah)⟩);(all_goals first|kernel_rfl|(intro;kernel_rfl))
end Go.Proofs
namespace Go.Proofs.YtfppbjfnllhgcaaGreat
section
open Go Go.RowKit Go.Proofs Sh Kb
theorem Gc (a b:ByteArray):(a.toList==b.toList)=(a==b):=by
 rw[Lib.toList_data,Lib.toList_data,Lz];by_cases q:a=b
 (·subst q;simp);have q2:¬a.data.toList=b.data.toList:=fun e=>q (by
  have:a.data=b.data:=Array.toList_inj.1 e;cases ha:a;cases hb:b;rw[ha,hb]at this;simpa using this)
 have q3:¬a.data=b.data:=fun e=>q2 (by rw[e]);simp[q,q3]
section
def anyM {σ α:Type} (p:σ→α→Bool×σ):σ→List α→Bool×σ
 |s,[]=>(false,s)
 |s,y :: l=>match p s y with
  |(true,t)=>(true,t)
  |(false,t)=>anyM p t l
theorem qo {σ α:Type} {p:σ→α→Bool×σ} {s:σ} {y:α} {l:List α} (h:(p s y).1=true):anyM p s (y :: l)=(true,(p s y).2):=by
 unfold anyM;split
 (·(next t e=>rw[e]));(next t e=>rw[e]at h;cases h)
theorem oF {σ α:Type} {p:σ→α→Bool×σ} {s:σ} {y:α} {l:List α} (h:(p s y).1=false):anyM p s (y :: l)=anyM p (p s y).2 l:=by
 (conv=>lhs;unfold anyM);split
 (·(next t e=>rw[e]at h;cases h));(next t e=>rw[e])
mutual
def jr {σ:Type} (p:σ→cw→Bool×σ):σ→cw→Bool×σ
 |s,.mk op n u nm args=>match p s (.mk op n u nm args)with
  |(true,t)=>(true,t)
  |(false,t)=>Ci p t args
def Ci {σ:Type} (p:σ→cw→Bool×σ):σ→List cw→Bool×σ
 |s,[]=>(false,s)
 |s,y :: l=>match jr p s y with
  |(true,t)=>(true,t)
  |(false,t)=>Ci p t l
end
theorem Cj {σ:Type} (p:σ→cw→Bool×σ):∀ (l:List cw) (s:σ),Ci p s l=anyM (jr p) s l
 |[],s=>by unfold Ci anyM;rfl
 |y :: l,s=>by
  unfold Ci anyM;cases h:jr p s y with
  |mk b t=>cases b<;>simp[Cj p l]
theorem qV {σ:Type} {p:σ→cw→Bool×σ} {s:σ} {op n:Int} {u nm:ByteArray} {args:List cw} (h:(p s (.mk op n u nm args)).1=true):jr p s (.mk op n u nm args)=(true,(p s (.mk op n u nm args)).2):=by
 unfold jr;split
 (·(next t e=>rw[e]));(next t e=>rw[e]at h;cases h)
theorem pJ {σ:Type} {p:σ→cw→Bool×σ} {s:σ} {op n:Int} {u nm:ByteArray} {args:List cw} (h:(p s (.mk op n u nm args)).1=false):jr p s (.mk op n u nm args)=anyM (jr p) (p s (.mk op n u nm args)).2 args:=by
 rw[← Cj];(conv=>lhs;unfold jr);split
 (·(next t e=>rw[e]at h;cases h));(next t e=>rw[e])
def kG {σ:Type} (S:Nat→Prop) (St:σ→World→Prop) (r:Bool×σ) (w:World) (e:Ending) (w':World):Prop:=e= .returned (.bool r.1)∧St r.2 w'∧cB S w w'
structure Zm {σ:Type} (g:Nat) (lb:Array Value) (S:Nat→Prop) (ok:cw→Prop) (p:σ→cw→Bool×σ) (St:σ→World→Prop):Prop where
 enters:∀ args w,(callFunc g args).run prog w= .ok (.enter g args) w
 bZ:∀ {s:σ} {W W':World},St s W→Below W W W'→St s W'
 new:∀ {s:σ} {W:World},St s W→∀ b,W.heap.size≤b→S b
 call:∀ (s:σ) (W:World) (cs:List Value) (y:cw),ok y→St s W→cH W S cs y→Calls prog g (#[.agg cs.toArray]++lb) W (kG S St (p s y) W)
def LQ {σ:Type} (S:Nat→Prop) (St:σ→World→Prop) (r:Bool×σ) (w:World) (e:Ending) (w':World):Prop:=∃ i:Int,e= .returned (bU i)∧decide (0≤i)=r.1∧St r.2 w'∧cB S w w'
section
variable {σ:Type} {g:Nat} {lb:Array Value} {S:Nat→Prop} {ok:cw→Prop} {p:σ→cw→Bool×σ} {St:σ→World→Prop}
theorem Sc (C:Zm g lb S ok p St) (A:Option Addr) (c:Nat) (xs:List cw) (s:σ) (w:World) (hs:Sq di w S A xs) (hl:xs.length≤1000000000) (ho:∀ x∈xs,ok x) (hst:St s w):Calls prog 214 #[bW A xs c,.func (.func g) #[] lb] w (LQ S St (anyM p s xs) w):=by
 generalize hP:LQ S St (anyM p s xs) w=P;have HP:=aa (show ∀ e w',LQ S St (anyM p s xs) w e w'→P e w' from fun e w' h=>hP▸h);clear hP;have HS:=aa hs;have HC:=aa C;have HO:=aa ho;have HT:=aa hst;have eg:=C.enters;obtain⟨n,hn⟩:∃ n,n=xs.length:=⟨_,rfl⟩;rw[← hn]at hl ⊢;have HN:=aa hn;clear hs hn C ho hst;go_enter func214,ntmps214;go_wp2;go_loopw [5,8] (fun v5 s8 wr=>∃ (k:Nat) (t:σ),k≤n∧s8=bU (k:Int)∧Hid (St t wr)∧Hid (cB S w wr)∧Hid (anyM p s xs=anyM p t (xs.drop k))) (fun _ s8 _=>n - (intOf s8).toNat);(case atStart=>exact⟨0,s,aaG _,rfl,HT,aa (cB.refl _ _),aa (by rw[List.drop_zero])⟩);clear HT;obtain⟨k,t,hk,rfl,HT,HK,HA⟩:=hrel;by_cases hlt:k<n;case pos=>
  (have hkx:k<xs.length:=by have:=HN.o;omega);obtain⟨b,o,cs,hA,_,hb,ey,cM⟩:=(HS.o.keep HK.o).get hkx;subst hA;have HI:=aa (HC.o.call t wr cs xs[k] (HO.o _ (aan hkx)) HT.o ey);have HD:=aa (List.drop_eq_getElem_cons hkx);obtain⟨op,m,un,nm,B,cc,ar,e1,e2,_⟩:=cH.parts ey;subst e2;generalize xs[k]=y at HI HD e1;subst e1;have h0:b_ wr b (o+k*5) (bU op):=cM 0 _ rfl;have h1:b_ wr b (o+k*5+1) (bU m):=cM 1 _ rfl;have h2:b_ wr b (o+k*5+2) (bV un):=cM 2 _ rfl;have h3:b_ wr b (o+k*5+3) (bV nm):=cM 3 _ rfl;have h4:b_ wr b (o+k*5+4) (bW B ar cc):=cM 4 _ rfl;clear cM ey;go_wp2_with fail;refine HI.o.mono ?_;rintro e w1 ⟨rfl,q1,q2⟩;have oG:=aa (HK.o.trans q2);have EI:=aa q1;clear q1 q2 h0 h1 h2 h3 h4;cases hq:(p t (.mk op m un nm ar)).1 with
  |true=>
   have HR:=aa (show anyM p s xs=(true,(p t (.mk op m un nm ar)).2) by rw[HA.o,HD.o,qo hq]);clear hq;go_wp2;exact HP.o (.returned (bU k)) _ ⟨k,rfl,by rw[HR.o];simp,by rw[HR.o];exact EI.o,oG.o⟩
  |false=>
   have HR:=aa (show anyM p s xs=anyM p (p t (.mk op m un nm ar)).2 (xs.drop (k+1)) by rw[HA.o,HD.o,oF hq]);clear hq;go_wp2;go_roundw;exact⟨k+1,_,by omega,rfl,EI,oG,HR⟩;simp[intOf];omega
 have HR:=aa (show anyM p s xs=(false,t) by rw[HA.o,List.drop_eq_nil_of_le aC];rfl);go_wp2;exact HP.o (.returned (bU (-1))) _ ⟨-1,rfl,by rw[HR.o];rfl,by rw[HR.o];exact HT.o,HK.o⟩
theorem IY (C:Zm g lb S ok p St) (A:Option Addr) (c:Nat) (xs:List cw) (s:σ) (w:World) (hs:Sq di w S A xs) (hl:xs.length≤1000000000) (ho:∀ x∈xs,ok x) (hst:St s w):Calls prog 145 #[bW A xs c,.func (.func g) #[] lb] w (kG S St (anyM p s xs) w):=by
 have HI:=aa (Sc C A c xs s w hs hl ho hst);clear hs hl ho hst;generalize anyM p s xs=r at HI ⊢;go_enter func145,ntmps145;go_wp2_with fail;refine HI.o.mono ?_;rintro e w1 ⟨i,rfl,h1,h2,h3⟩;have HQ:=aa (And.intro h1 (And.intro h2 h3));clear h1 h2 h3;go_wp2;go_ret;exact⟨by show Ending.returned (.bool (decide (0≤i)))=_;rw[HQ.o.1],HQ.o.2.1,HQ.o.2.2⟩
end
theorem IZ:∀ args w,(callFunc 146 args).run prog w= .ok (.enter 146 args) w:=enters_of func146 ah rfl
section
variable {σ:Type} {g:Nat} {lb:Array Value} {S:Nat→Prop} {ok:cw→Prop} {p:σ→cw→Bool×σ} {St:σ→World→Prop}
theorem Pk (C:Zm g lb S ok p St) (N px:Nat)
 (ih:∀ x,ok x→cE x≤N→∀ (s:σ) (W:World) (cs:List Value),St s W→cH W S cs x→Calls prog 87 #[.agg cs.toArray,.func (.func g) #[] lb] W (kG S St (jr p s x) W)):
 Zm 146 #[.pointer (bY px 0)] S (fun x=>ok x∧cE x≤N) (jr p) (fun s W=>St s W∧b_ W px 0 (.func (.func g) #[] lb)∧px<W.heap.size∧S px) where
 enters:=IZ
 bZ h hb:=⟨C.bZ h.1 hb,(hb.cell (p:=bY px 0) h.2.2.1).trans h.2.1,aaD h.2.2.1 hb.size,h.2.2.2⟩
 new h:=C.new h.1
 call s W cs y hy hst hI:=by
  obtain⟨h1,h2,h3,h4⟩:=hst;have hb1:Below W W (W.alloc (.cells cs.toArray 47)):=cS _;have HI:=aa (ih y hy.1 hy.2 s (W.alloc (.cells cs.toArray 47)) cs (C.bZ h1 hb1) (hI.keep (cB.cA hb1)));have HB:=aa (cB.cA (S:=S) hb1);have HX:=aa (And.intro h2 (And.intro h3 h4));generalize jr p s y=r at HI ⊢;obtain⟨op,m,un,nm,B,cc,ar,e1,e2,_⟩:=cH.parts hI;subst e1 e2;clear ih hy h1 h4 hI hb1;generalize hP:kG S (fun s W=>St s W∧b_ W px 0 (.func (.func g) #[] lb)∧px<W.heap.size∧S px) r W=P;have HP:=aa (show ∀ e w',kG S (fun s W=>St s W∧b_ W px 0 (.func (.func g) #[] lb)∧px<W.heap.size∧S px) r W e w'→P e w' from fun e w' h=>hP▸h);clear hP;show Calls prog 146 #[.agg #[bU op,bU m,bV un,bV nm,bW B ar cc],.pointer (bY px 0)] W P;go_enter func146,ntmps146;go_wp2_with fail;refine HI.o.mono ?_;rintro e w1 ⟨rfl,q1,q2⟩;have HQ:=aa (And.intro q1 (HB.o.trans q2));clear q1 q2;go_wp2_with fail;refine HP.o (.returned (.bool r.1)) _ ⟨rfl,⟨HQ.o.1,?_,aaD HX.o.2.1 HQ.o.2.1,HX.o.2.2⟩,HQ.o.2⟩;rw[World.cell?_of_block (a:=bY px 0) (HQ.o.2.2 px HX.o.2.1 HX.o.2.2)];exact HX.o.1
theorem EJ (C:Zm g lb S ok p St) (hok:∀ x,ok x→∀ y∈x.args,ok y) (N:Nat) (hN:N≤1000000):∀ x,ok x→cE x≤N→∀ (s:σ) (w:World) (cs:List Value),St s w→cH w S cs x→Calls prog 87 #[.agg cs.toArray,.func (.func g) #[] lb] w (kG S St (jr p s x) w):=by
 induction N with
 |zero=>intro x _ hx;have:=dB x;omega
 |succ N ih=>
  intro x ho hx s w cs hst hI
  replace ih:=ih af
  have hb1:Below w w (w.alloc (.cells cs.toArray 47)):=cS _
  have hb2:=hb1.alloc ai (.cells #[.func (.func g) #[] lb] 126)
  have Wi:=aa (C.call s _ cs x ho (C.bZ hst hb2) (hI.keep (cB.cA hb2)))
  have dG:=aa hb2
  have Sd:=aa (C.new hst)
  have eg:=C.enters
  have hlen:∀ y∈x.args,ok y:=hok x ho
  obtain⟨op,m,un,nm,B,cc,ar,e1,e2,hS⟩:=cH.parts hI
  subst e1 e2
  have vE:cE (.mk op m un nm ar)=1+cT ar:=by unfold cE;rfl
  have hnl:=fN ar
  have HK:=aa (show ∀ (t:σ) (W:World),St t W→cB S w W→b_ W (w+1) 0 (.func (.func g) #[] lb)→w.heap.size+1<W→
   Calls prog 145 #[bW B ar cc,.func (.func 146) #[] #[.pointer (bY (w+1) 0)]] W (kG S (fun s W=>St s W∧b_ W (w+1) 0 (.func (.func g) #[] lb)∧w.heap.size+1<W∧S (w+1)) (anyM (jr p) t ar) W)from fun t W h1 h2 h3 h4=>
   IY (Pk C N (w+1) fun x h1 h2 s W cs h3 h4=>ih x h1 h2 s W cs h3 h4) B cc ar t W (hS.keep h2) af (fun y hy=>⟨hlen y hy,by have:=dP ar y hy;omega⟩) ⟨h1,h3,h4,C.new hst _ af⟩)
  generalize hP:kG S St (jr p s (.mk op m un nm ar)) w=P
  have HP:=aa (show ∀ e w',kG S St (jr p s (.mk op m un nm ar)) w e w'→P e w' from fun e w' h=>hP▸h)
  clear hP ih hI hb1 hb2 vE hnl hS hlen ho hx hst hok
  show Calls prog 87 #[.agg #[bU op,bU m,bV un,bV nm,bW B ar cc],.func (.func g) #[] lb] w P
  go_enter func87,ntmps87
  go_wp2_with fail
  refine Wi.o.mono ?_
  rintro e w1 ⟨rfl,q1,q2⟩
  have z1:w.heap.size+1<w1:=by have:=q2.1;simp at this;omega
  have k1:cN ((w.alloc (.cells #[bU op,bU m,bV un,bV nm,bW B ar cc] 47)).alloc (.cells #[.func (.func g) #[] lb] 126)) w 47 [bU op,bU m,bV un,bV nm,bW B ar cc]:=(heap_alloc_old _ _ ai).trans (heap_alloc_new w _)
  have c1:b_ w1 w 4 (bW B ar cc):=(World.cell?_of_block (a:=bY w 4) (q2.2 w.heap.size bO (Sd.o _ aac))).trans (k1.cell 4)
  have k2:=heap_alloc_new (w.alloc (.cells #[bU op,bU m,bV un,bV nm,bW B ar cc] 47)) (.cells #[.func (.func g) #[] lb] 126)
  rw[show(w.alloc (.cells #[bU op,bU m,bV un,bV nm,bW B ar cc] 47)).heap.size=w.heap.size+1 by simp]at k2
  have c2:b_ w1 (w+1) 0 (.func (.func g) #[] lb):=(World.cell?_of_block (a:=bY (w+1) 0) (q2.2 (w+1) bO (Sd.o (w+1) af))).trans (cN.cell k2 0)
  clear k1 k2
  have HQ:=aa (And.intro q1 ((cB.cA dG.o).trans q2))
  have C2:=aa c2
  clear q1 q2 c2
  cases hq:(p s (.mk op m un nm ar)).1 with
  |true=>
   have HR:=aa (qV hq);clear hq c1 z1;go_wp2;exact HP.o (.returned (.bool true)) _ ⟨by rw[HR.o],by rw[HR.o];exact HQ.o.1,HQ.o.2⟩
  |false=>
   have HR:=aa (pJ hq);have oG:=aa (HK.o _ w1 HQ.o.1 HQ.o.2 C2.o z1);clear hq z1 HK;generalize anyM (jr p) (p s (.mk op m un nm ar)).2 ar=r at HR oG;go_wp2_with fail;refine oG.o.mono ?_;rintro e w2 ⟨rfl,q1,q2⟩;have F3:=aa (And.intro q1.1 (HQ.o.2.trans q2));clear q1 q2;go_wp2;exact HP.o (.returned (.bool r.1)) _ ⟨by rw[HR.o],by rw[HR.o];exact F3.o.1,F3.o.2⟩
end
end
theorem Cl (p:_→Bool) (g:Nat) (lb:Array Value) (eg:∀ args w,(callFunc g args).run prog w= .ok (.enter g args) w) (A:Option Addr) (c:Nat) (xs:List cL) (w:World) (hp:jT prog g lb gR p xs w) (hbig:xs.length≤maxLen) (hs:Sq gR w Any A xs):Calls prog 133 #[bW A xs c,.func (.func g) #[] lb] w fun e w'=>e= .returned (bU (AX p xs))∧Below w w w':=by
 cases xs with
 |nil=>exact(B_ A c _ w).mono fun e w' ⟨he,hw⟩=>⟨he,hw▸aaf _ _⟩
 |cons a l=>exact IC (R:=gR) IX Tryz.isAgg69 Tryz.sizeOf69 p g lb eg A c (a :: l) w hp aR hs ai
theorem I1 (p:_→Bool) (g:Nat) (lb:Array Value) (eg:∀ args w,(callFunc g args).run prog w= .ok (.enter g args) w) (A:Option Addr) (c:Nat) (xs:List eX) (w:World) (hp:jT prog g lb jm p xs w) (hbig:xs.length≤maxLen) (hs:Sq jm w Any A xs):Calls prog 191 #[bW A xs c,.func (.func g) #[] lb] w fun e w'=>e= .returned (bU (AX p xs))∧Below w w w':=by
 cases xs with
 |nil=>exact(rN A c _ w).mono fun e w' ⟨he,hw⟩=>⟨he,hw▸aaf _ _⟩
 |cons a l=>exact IC (R:=jm) Gb Tryz.isAgg112 Tryz.sizeOf112 p g lb eg A c (a :: l) w hp aR hs ai
def Lb (nm:ByteArray) (f:cL):Bool:=f.name==nm
def Zn (nm:ByteArray) (q:eX):Bool:=q.name==nm
def findF (fs:List cL) (nm:ByteArray):Int:=AX (Lb nm) fs
def nh (ps:List eX) (nm:ByteArray):Int:=AX (Zn nm) ps
def qp (r:Int) (w:World) (e:Ending) (w':World):Prop:=e= .returned (bU r)∧Below w w w'
theorem Wj (pp:Nat) (nm:ByteArray) (l:List cL) (w:World) (hc:b_ w pp 0 (bV nm)) (hp:pp<w.heap.size):jT prog 197 #[.pointer (bY pp 0)] gR (Lb nm) l w:=fun W cs x hx ey hb=>by
 obtain⟨A,d,es,e,hsp,hie⟩:=ey;obtain⟨op,n,un,D7,A2,c2,ar,_,hes,_⟩:=hie.parts;subst hes e;have h0:b_ W pp 0 (bV nm):=(hb.cell (p:=bY pp 0) hp).trans hc;have hpW:pp<W.heap.size:=aaD hp hb.size;have HE:=aa (show(x.name.toList==nm.toList)=Lb nm x from Gc _ _);generalize Lb nm x=z at HE;clear hsp hie hx;generalize x.name=xn at HE;generalize x.params.length=xl;show Calls prog 197 #[.agg #[bV xn,bW A xl d,bU op,bU n,bV un,bV D7,bW A2 ar c2],.pointer (bY pp 0)] W _;go_enter func197,ntmps197;go_wp2;go_ret;exact⟨by show Ending.returned (.bool (xn.toList==nm.toList))=_;rw[HE.o],cS _⟩
theorem Sg (pp:Nat) (nm:ByteArray) (l:List eX) (w:World) (hc:b_ w pp 0 (bV nm)) (hp:pp<w.heap.size):jT prog 198 #[.pointer (bY pp 0)] jm (Zn nm) l w:=fun W cs x hx ey hb=>by
 have e:cs=[bV x.name,bV x.unit]:=ey;subst e;have h0:b_ W pp 0 (bV nm):=(hb.cell (p:=bY pp 0) hp).trans hc;have hpW:pp<W.heap.size:=aaD hp hb.size;have HE:=aa (show(x.name.toList==nm.toList)=Zn nm x from Gc _ _);generalize Zn nm x=z at HE;clear ey hx;generalize x.name=xn at HE;generalize x.unit=xu;show Calls prog 198 #[.agg #[bV xn,bV xu],.pointer (bY pp 0)] W _;go_enter func198,ntmps198;go_wp2;go_ret;exact⟨by show Ending.returned (.bool (xn.toList==nm.toList))=_;rw[HE.o],cS _⟩
theorem qq (A:Option Addr) (c:Nat) (fs:List cL) (nm:ByteArray) (w:World) (hs:Sq gR w Any A fs) (hl:fs.length≤maxLen):Calls prog 128 #[bW A fs c,bV nm] w (qp (findF fs nm) w):=by
 have hb1:Below w w (w.alloc (.cells #[bV nm] 9)):=cS _;have HC:=aa (Cl (Lb nm) 197 #[.pointer (bY w 0)] (enters_of func197 ah rfl) A c fs (w.alloc (.cells #[bV nm] 9)) (Wj w nm fs _ (cN.cell (heap_alloc_new w _) 0) ai) hl (hs.bZ hb1));have HB:=aa hb1;clear hb1 hs hl;unfold findF;generalize AX (Lb nm) fs=r at HC ⊢;generalize hP:qp r w=P;have HP:=aa (show ∀ e w',qp r w e w'→P e w' from fun e w' h=>hP▸h);clear hP;go_enter func128,ntmps128;go_wp2_with fail;refine HC.o.mono ?_;rintro e w1 ⟨rfl,hb2⟩;have HW:=aa (HB.o.trans (hb2.mono HB.o.size));clear hb2;go_wp2;exact HP.o (.returned (bU r)) _ ⟨rfl,HW.o⟩
theorem oH (f0:Value) (A:Option Addr) (c:Nat) (ps:List eX) (b0 b1:Int) (b2 b3:ByteArray) (B:Option Addr) (k d:Nat) (fn nm:ByteArray) (w:World) (hs:Sq jm w Any A ps) (hl:ps.length≤maxLen):Calls prog 129 #[.agg #[bV fn,bW A ps c,bU b0,bU b1,bV b2,bV b3,bW B k d],bV nm] w (qp (nh ps nm) w):=by
 have hb0:Below w w (w.alloc (.cells #[bV fn,bW A ps c,bU b0,bU b1,bV b2,bV b3,bW B k d] 69)):=cS _;have hb1:=hb0.alloc ai (.cells #[bV nm] 9);have k2:=heap_alloc_new (w.alloc (.cells #[bV fn,bW A ps c,bU b0,bU b1,bV b2,bV b3,bW B k d] 69)) (.cells #[bV nm] 9);rw[show(w.alloc (.cells #[bV fn,bW A ps c,bU b0,bU b1,bV b2,bV b3,bW B k d] 69)).heap.size=w.heap.size+1 by simp]at k2;have HC:=aa (I1 (Zn nm) 198 #[.pointer (bY (w+1) 0)] (enters_of func198 ah rfl) A c ps _ (Sg (w+1) nm ps _ (cN.cell k2 0) bO) hl (hs.bZ hb1));have HB:=aa hb1;clear hb1 hs hl hb0 k2;unfold nh;generalize AX (Zn nm) ps=r at HC ⊢;generalize hP:qp r w=P;have HP:=aa (show ∀ e w',qp r w e w'→P e w' from fun e w' h=>hP▸h);clear hP;go_enter func129,ntmps129;go_wp2_with fail;refine HC.o.mono ?_;rintro e w1 ⟨rfl,hb2⟩;have HW:=aa (HB.o.trans (hb2.mono HB.o.size));clear hb2;go_wp2;exact HP.o (.returned (bU r)) _ ⟨rfl,HW.o⟩
def dK (p:cw→Bool) (x:cw):Bool:=(jr (fun(_:Unit) y=>(p y,())) () x).1
theorem Pm {α:Type} (q:Unit→α→Bool×Unit) (l:List α):(anyM q () l).1=l.any fun y=>(q () y).1:=by
 induction l with
 |nil=>rfl
 |cons y l ih=>
  rw[List.any_cons];cases h:(q () y).1 with
  |true=>rw[qo h];rfl
  |false=>rw[oF h,ih];rfl
theorem lQ (p:cw→Bool) (op n:Int) (u nm:ByteArray) (args:List cw):dK p (.mk op n u nm args)=(p (.mk op n u nm args)||args.any (dK p)):=by
 unfold dK;cases h:p (.mk op n u nm args)with
 |true=>rw[qV (by exact h),Bool.true_or]
 |false=>rw[pJ (by exact h),Bool.false_or];exact Pm _ _
theorem qs {g:Nat} {lb:Array Value} (eg:∀ args w,(callFunc g args).run prog w= .ok (.enter g args) w) (p:cw→Bool) (Q:World→Prop) (ok:cw→Prop) (hok:∀ x,ok x→∀ y∈x.args,ok y) (hQ:∀ {W W':World},Q W→Below W W W'→Q W') (hc:∀ (W:World) (cs:List Value) (y:cw),ok y→Q W→cH W Any cs y→Calls prog g (#[.agg cs.toArray]++lb) W (lM (p y) W)) (x:cw) (hx:cE x≤1000000) (w:World) (cs:List Value) (h1:ok x) (h2:Q w) (hI:cH w Any cs x):Calls prog 87 #[.agg cs.toArray,.func (.func g) #[] lb] w (lM (dK p x) w):=by
 have C:Zm g lb Any ok (fun(_:Unit) y=>(p y,())) (fun _ W=>Q W∧Below w w W):=
  ⟨eg,fun h hb=>⟨hQ h.1 hb,h.2.trans (hb.mono h.2.size)⟩,fun _ _ _=>trivial,fun s W cs y hy hs hI=>(hc W cs y hy hs.1 hI).mono fun e w' ⟨h1,h2⟩=>⟨h1,⟨hQ hs.1 h2,hs.2.trans (h2.mono hs.2.size)⟩,cB.cA h2⟩⟩
 exact(EJ C hok _ (aaB 1000000) x h1 hx () w cs ⟨h2,aaf _ _⟩ hI).mono fun e w' h=>⟨h.1,h.2.1.2⟩
theorem Gd {α:Type} (p:α→Bool) (xs:List α):AX p xs<(xs.length:Int):=by
 unfold AX;cases h:xs.findIdx? p with
 |none=>show(-1:Int)<_;omega
 |some k=>
  rw[List.findIdx?_eq_some_iff_getElem]at h;obtain⟨hk,_⟩:=h;show(k:Int)<_;omega
def j7 (fs:List cL) (x:cw):Bool:=x.op==3&&decide (findF fs x.name<0)
def j8 (fs:List cL) (x:cw):Bool:=x.op==3&&(match fs[(findF fs x.name).toNat]? with|some f=>decide (x.args.length≠f.params.length)|none=>false)
structure uR (pf:Nat) (A:Option Addr) (c:Nat) (fs:List cL) (W:World):Prop where
 cell:b_ W pf 0 (bW A fs c)
 lt:pf<W.heap.size
 sq:Sq gR W Any A fs
 len:fs.length≤1000000000
theorem uR.bZ {pf:Nat} {A:Option Addr} {c:Nat} {fs:List cL} {W W':World} (h:uR pf A c fs W) (hb:Below W W W'):uR pf A c fs W':=
 ⟨(hb.cell (p:=bY pf 0) h.lt).trans h.cell,aaD h.lt hb.size,h.sq.bZ hb,h.len⟩
theorem Cm:∀ args w,(callFunc 147 args).run prog w= .ok (.enter 147 args) w:=enters_of func147 ah rfl
theorem zO:∀ args w,(callFunc 148 args).run prog w= .ok (.enter 148 args) w:=enters_of func148 ah rfl
theorem I2 (pf:Nat) (A:Option Addr) (c:Nat) (fs:List cL) (W:World) (cs:List Value) (y:cw) (hF:uR pf A c fs W) (hI:cH W Any cs y):Calls prog 147 (#[.agg cs.toArray]++#[.pointer (bY pf 0)]) W (lM (j7 fs y) W):=by
 obtain⟨op,n,un,nm,B,k,ar,e1,e2,_⟩:=hI.parts;subst e1 e2;have h0:=hF.cell;have hp:=hF.lt;have HF:=aa (fun W' (hb:Below W W W')=>qq A c fs nm W' (hF.sq.bZ hb) (by have:=hF.len;unfold maxLen;omega));have HR:=aa (show j7 fs (.mk op n un nm ar)=(op==3&&decide (findF fs nm<0))from rfl);generalize j7 fs (.mk op n un nm ar)=r at HR ⊢;generalize findF fs nm=z at HF HR;clear hI hF;show Calls prog 147 #[.agg #[bU op,bU n,bV un,bV nm,bW B ar k],.pointer (bY pf 0)] W _;have HB:=aa (show Below W W (W.alloc (.cells #[bU op,bU n,bV un,bV nm,bW B ar k] 47))from cS _);have H0:=aa h0;by_cases ho:op=3
 (·subst ho;go_enter func147,ntmps147;go_wp2_with fail;refine(HF.o _ HB.o).mono ?_;rintro e w1 ⟨rfl,hb⟩;have HW:=aa (HB.o.trans (hb.mono HB.o.size));clear hb;go_wp2;go_ret;exact⟨by rw[HR.o];rfl,HW.o⟩);have h3:(op==3)=false:=bE;go_enter func147,ntmps147;go_wp2;go_ret;exact⟨by rw[HR.o,h3];rfl,HB.o⟩
theorem EK (pf:Nat) (A:Option Addr) (c:Nat) (fs:List cL) (W:World) (cs:List Value) (y:cw) (hF:uR pf A c fs W) (hI:cH W Any cs y) (hu:j7 fs y=false):Calls prog 148 (#[.agg cs.toArray]++#[.pointer (bY pf 0)]) W (lM (j8 fs y) W):=by
 obtain⟨op,n,un,nm,B,k,ar,e1,e2,_⟩:=hI.parts;subst e1 e2;have hp:=hF.lt;generalize hW1:W.alloc (.cells #[bU op,bU n,.string un,.string nm,.slice B ar.length k] 47)=W1;have hBw:Below W W W1:=(by rw[← hW1];exact cS _);have HB:=aa hBw;have HF:=aa (fun u:eE W1=>qq A c fs nm u.at ((hF.sq.bZ hBw).bZ u.bZ) (by have:=hF.len;unfold maxLen;omega));have H0:=aa (fun u:eE W1=>u.cell ((hBw.cell (p:=⟨pf,0,none⟩) hp).trans hF.cell));have HR:=aa (show j8 fs (.mk op n un nm ar)=(op==3&&(match fs[(findF fs nm).toNat]? with|some f=>decide (ar.length≠f.params.length)|none=>false))from rfl);have HU:=aa (show(op==3&&decide (findF fs nm<0))=false from hu);have HS:=aa (hF.sq.bZ hBw);generalize j8 fs (.mk op n un nm ar)=r at HR ⊢;have hlt:=Gd (Lb nm) fs;change findF fs nm<fs.length at hlt;generalize findF fs nm=z at HF HR HU hlt;have gY:=aa hF.len;clear hI hF hu hBw;show Calls prog 148 #[.agg #[bU op,bU n,.string un,.string nm,.slice B ar.length k],.pointer (some ⟨pf,0,none⟩)] W _;by_cases ho:op=3
 (·subst ho;(have hz:0≤z:=by have:=HU.o;simp at this;omega);obtain⟨j,rfl⟩:∃ j:Nat,z=(j:Int):=⟨z.toNat,by omega⟩;have hj:j<fs.length:=af;obtain⟨b,o,cs,hA,_,hb,ey,cM⟩:=HS.o.get hj;subst hA;obtain⟨A2,d,es,e,hsp,hie⟩:=ey;subst e;have wu:=aa (show r=decide (ar.length≠fs[j].params.length) by rw[HR.o,Int.toNat_natCast,List.getElem?_eq_getElem hj];rfl);have HP:=aa (fun u:eE W1=>u.cell (cM 1 _ rfl));generalize fs[j].params.length=m at wu HP;clear cM hsp hie HS HU HR;go_enter func148,ntmps148;go_wp2_with fail;have c0:∀ u:eE W1,b_ u.at W.heap.size 0 (bU 3):=fun u=>u.cell aA;have c3:∀ u:eE W1,b_ u.at W.heap.size 3 (bV nm):=fun u=>u.cell aA;have c4:∀ u:eE W1,b_ u.at W.heap.size 4 (bW B ar k):=fun u=>u.cell aA;have cf:∀ u:eE W1,b_ u.at pf 0 (bW (bY b o) fs c):=H0.o;have cp:∀ u:eE W1,b_ u.at b (o+j*7+1) (bW A2 m d):=HP.o;clear hW1;refine dy 18 (C:=fun w'=>∃ u:eE W1,w'=u.at) ah ah dX.drew ?_;simp only[aay,List.take_zero,List.drop_succ_cons,List.drop_zero];(repeat (quiet_step (first|((go_at_call 128;exact eC (HF.o _))))));refine wpQuiet_nil ?_;rintro w9 ⟨u,rfl⟩;have HU:=aa (HB.o.trans (u.bZ.mono HB.o.size));go_wp2;go_ret;exact⟨cZ (by rw[wu.o,Bool.eq_iff_iff];simp;omega),HU.o⟩);have h3:(op==3)=false:=bE;go_enter func148,ntmps148;go_wp2_with fail;have c0:b_ W1 W 0 (bU op):=aA;clear hW1;go_quiet (fail);have hdr:Below W1 W1 (W1.drewN nq):=⟨rfl,rfl,rfl,aaB _,fun _ _=>rfl⟩;have HU:=aa (HB.o.trans (hdr.mono HB.o.size));generalize W1.drewN nq=wa at HU;go_wp2;go_ret;exact⟨by rw[HR.o,h3];rfl,HU.o⟩
theorem NX (s:ByteArray) (w:World) (hs:s.size≤maxLen):Calls prog 194 #[bV s] w fun e w'=>e= .returned (.bool (dY s))∧w=w':=by
 have h1:=fun W=>si s W hs;have h2:=fun W=>sk s W;unfold dY;generalize kD s.data.toList=a at h1 ⊢;generalize rL s=b at h2 ⊢;have H1:=aa h1;have H2:=aa h2;clear h1 h2 hs;cases a<;>cases b<;>
  (go_enter func194,ntmps194
   go_wp2_with (first|(go_at_call 117;refine(H1.o _).mono ?_;rintro e w' ⟨rfl,rfl⟩)|(go_at_call 118;refine(H2.o _).mono ?_;rintro e w' ⟨rfl,rfl⟩))
   go_ret
   exact⟨rfl,rfl⟩)
theorem sK:∀ args w,(callFunc 194 args).run prog w= .ok (.enter 194 args) w:=enters_of func194 ah rfl
structure Yf (q:eX):Prop where
 free:dY q.name=true
 quote:kQ q.unit=true
 sm:wh q
theorem Wk (pn:Nat) (l:List eX) (w:World) (hc:b_ w pn 0 (.func (.func 194) #[] #[])) (hp:pn<w.heap.size) (hq:∀ q∈l,Yf q):
 jT prog 195 #[.pointer (bY pn 0)] jm (fun _=>false) l w:=fun W cs x hx ey hb=>by
 have e:cs=[bV x.name,bV x.unit]:=ey
 subst e
 have h0:b_ W pn 0 (.func (.func 194) #[] #[]):=(hb.cell (p:=bY pn 0) hp).trans hc
 have hpW:pn<W.heap.size:=aaD hp hb.size
 have ho:=hq x hx
 have HQ:=aa (fun W=>EE x.unit W ho.sm.unit)
 have HN:=aa (fun W=>NX x.name W ho.sm.name)
 rw[ho.quote]at HQ
 rw[ho.free]at HN
 have eg:=sK
 generalize x.name=xn at HQ HN ⊢
 generalize x.unit=xu at HQ HN ⊢
 clear ey hx ho hq
 have HB:=aa (show Below W W (W.alloc (.cells #[bV xn,bV xu] 112))from cS _)
 show Calls prog 195 #[.agg #[bV xn,bV xu],.pointer (bY pn 0)] W _
 go_enter func195,ntmps195
 go_wp2_with fail
 refine(HQ.o _).mono ?_
 rintro e w1 ⟨⟨t,rfl⟩,hb1⟩
 have x0:b_ w1 W 0 (bV xn):=(hb1.cell (p:=bY W 0) ai).trans ax
 have x1:b_ w1 pn 0 (.func (.func 194) #[] #[]):=(hb1.cell (p:=bY pn 0) (by rw[aaI];show pn<_;omega)).trans ((HB.o.cell (p:=bY pn 0) hpW).trans h0)
 have HW:=aa (HB.o.trans (hb1.mono HB.o.size))
 clear hb1 h0
 go_wp2_with fail
 refine(HN.o _).mono ?_
 rintro e w2 ⟨rfl,rfl⟩
 go_wp2_with fail
 go_ret
 exact⟨rfl,HW.o⟩
structure NY (f:cL):Prop where
 free:dY f.name=true
 lo:1≤f.params.length
 hi:f.params.length≤6
 par:∀ q∈f.params,Yf q
 body:fB f.body=true
 sm:R5 f
theorem I3 (f:cL) (cs:List Value) (w:World) (hI:gR.is w Any cs f) (ho:NY f):Calls prog 127 #[.agg cs.toArray] w (lM true w):=by
 obtain⟨A,d,es,e,hsp,hie⟩:=hI;have HE:=aa (fun W (hb:Below w w W)=>qm f.body es W (hie.keep (cB.cA hb)) ho.sm.body);rw[ho.body]at HE;obtain⟨op,n,un,nm,A2,c2,ar,_,hes,_⟩:=hie.parts;subst hes e;have hlo:=ho.lo;have hhi:=ho.hi;have HN:=aa (fun W=>NX f.name W ho.sm.name);rw[ho.free]at HN;have HC:=aa (fun W pn (hb:Below w w W) (hc:b_ W pn 0 (.func (.func 194) #[] #[])) (hp:pn<W.heap.size)=>
  oC (fun _=>false) 195 #[.pointer (bY pn 0)] (enters_of func195 ah rfl) A d f.params W (Wk pn f.params W hc hp ho.par) aH (hsp.bZ hb))
 rw[show(f.params.any fun _=>false)=false by induction f.params<;>simp_all]at HC;have eg:=sK;clear ho hsp hie;generalize f.name=fn at HN ⊢;generalize f.params.length=m at HC hlo hhi ⊢;have h1:decide (1≤(m:Int))=true:=au;have h6:decide ((m:Int)≤6)=true:=au;show Calls prog 127 #[.agg #[bV fn,bW A m d,bU op,bU n,bV un,bV nm,bW A2 ar c2]] w _;have hb1:Below w w (w.alloc (.cells #[bV fn,bW A m d,bU op,bU n,bV un,bV nm,bW A2 ar c2] 69)):=cS _;have k2:=heap_alloc_new (w.alloc (.cells #[bV fn,bW A m d,bU op,bU n,bV un,bV nm,bW A2 ar c2] 69)) (.cells #[.func (.func 194) #[] #[]] 143);have k3:cN ((w.alloc (.cells #[bV fn,bW A m d,bU op,bU n,bV un,bV nm,bW A2 ar c2] 69)).alloc (.cells #[.func (.func 194) #[] #[]] 143)) w 69 [bV fn,bW A m d,bU op,bU n,bV un,bV nm,bW A2 ar c2]:=(heap_alloc_old _ _ ai).trans (heap_alloc_new w _);have hb3:=hb1.alloc ai (.cells #[.func (.func 194) #[] #[]] 143);rw[show(w.alloc (.cells #[bV fn,bW A m d,bU op,bU n,bV un,bV nm,bW A2 ar c2] 69)).heap.size=w.heap.size+1 by simp]at k2;have K2:=aa (show cN ((w.alloc (.cells #[bV fn,bW A m d,bU op,bU n,bV un,bV nm,bW A2 ar c2] 69)).alloc (.cells #[.func (.func 194) #[] #[]] 143)) (w+1) 143 [.func (.func 194) #[] #[]]from k2);have K3:=aa k3;have HB:=aa hb3;have HZ:=aa (show((w.alloc (.cells #[bV fn,bW A m d,bU op,bU n,bV un,bV nm,bW A2 ar c2] 69)).alloc (.cells #[.func (.func 194) #[] #[]] 143)).heap.size=w.heap.size+1+1 by rw[aaI,aaI]);clear k2 k3 hb1 hb3;go_enter func127,ntmps127;go_upto_region 2 with fail;generalize ((w.alloc (.cells #[bV fn,bW A m d,bU op,bU n,bV un,bV nm,bW A2 ar c2] 69)).alloc (.cells #[.func (.func 194) #[] #[]] 143))=w3 at K2 K3 HB HZ ⊢;have HC3:=aa (HC.o w3 (w+1) HB.o (K2.o.cell 0) (by have:=HZ.o;omega));have Ze:=aa (fun W (hb:Below w3 w3 W)=>HE.o W (HB.o.trans (hb.mono HB.o.size)));have q0:b_ w3 (w+1) 0 (.func (.func 194) #[] #[]):=K2.o.cell 0;have q1:b_ w3 w 0 (bV fn):=K3.o.cell 0;have q2:b_ w3 w 1 (bW A m d):=K3.o.cell 1;clear HC HE;go_wp2_with (first|(go_at_call 194;refine(HN.o _).mono ?_;rintro e w1 ⟨rfl,rfl⟩)|fail);refine HC3.o.mono ?_;rintro e w4 ⟨rfl,hb4⟩;have r2:∀ i,i<7→w4.cell? (bY w i)=([bV fn,bW A m d,bU op,bU n,bV un,bV nm,bW A2 ar c2]:List Value)[i]? :=fun i _=>(hb4.cell (p:=bY w i) (by rw[HZ.o];show w.heap.size<_;omega)).trans (K3.o.cell i);have g2:=r2 2 af;have g3:=r2 3 af;have g4:=r2 4 af;have g5:=r2 5 af;have g6:=r2 6 af;have gC:=aa hb4;clear r2 hb4 q0 q1 q2;go_wp2_with fail;refine(Ze.o _ gC.o).mono ?_;rintro e w5 ⟨rfl,ew⟩;have HW:=aa ((HB.o.trans (gC.o.mono HB.o.size)).trans (ew.mono (aaC HB.o.size gC.o.size)));clear ew;go_wp2;go_ret;exact⟨rfl,HW.o⟩
end
section
open Go Go.RowKit
section
section
variable {P:Program} {ops:Array Oper} {md:Region.Mode} {S:World→Prop} {Q:Exit→Act→World→Prop} {D:List Nat}
def waits (md:Region.Mode) (ops:Array Oper):Nat→Nat→Nat→Bool
 |0,_,_=>false
 |f+1,j,d=>match ops[j]? with
  |some o=>(o.after.any fun e=>Region.binds md e&&e.on==d)||o.after.any fun e=>Region.binds md e&&waits md ops f e.on d
  |none=>false
def needs (md:Region.Mode) (ops:Array Oper) (D:List Nat) (j:Nat):Bool:=D.any fun d=> !waits md ops 12 j d
def zP (md:Region.Mode) (ops:Array Oper) (listed:Array Bool):Prop:=∀ j oj,ops[j]? =some oj→listed.getD j false=true→∀ e∈oj.after,Region.binds md e=true→listed.getD e.on false=true
theorem zP.set {listed:Array Bool} (h:zP md ops listed) {i:Nat} (hi:i∈Region.ready md ops listed):zP md ops (listed.setIfInBounds i true):=by
 obtain⟨_,oi,hoi,hall⟩:=mem_ready.1 hi;intro j oj hj hl e he hb;by_cases q:i=j
 (·subst q;have:oj=oi:=Option.some.inj (hj.symm.trans hoi);subst this;exact getD_set_true (hall e he hb));rw[getD_set_ne false q]at hl;exact getD_set_true (h j oj hj hl e he hb)
theorem nW {listed:Array Bool} (h:zP md ops listed) {d:Nat}:∀ (f j:Nat),(∀ oj,ops[j]? =some oj→∀ e∈oj.after,Region.binds md e=true→listed.getD e.on false=true)→waits md ops f j d=true→listed.getD d false=true
 |0,_,_,hw=>by simp[waits]at hw
 |f+1,j,hr,hw=>by
  unfold waits at hw;split at hw
  ·next o ho=>
   rw[Bool.or_eq_true]at hw;rcases hw with hw|hw
   (·obtain⟨e,he,hq⟩:=Array.any_eq_true'.1 hw;rw[aag,beq_iff_eq]at hq;rw[← hq.2];exact hr o ho e he hq.1);obtain⟨e,he,hq⟩:=Array.any_eq_true'.1 hw;rw[aag]at hq;exact nW h f e.on (fun oj hj x hx hb=>h e.on oj hj (hr o ho e he hq.1) x hx hb) hq.2
  cases hw
def HW (P:Program) (md:Region.Mode) (ops:Array Oper) (S:World→Prop) (Q:Exit→Act→World→Prop) (D:List Nat):List (Nat×Bool)→Act→World→Prop
 |[],a,w=>Q .normal a w
 |(i,false) :: r,a,w=>∃ oi v,ops[i]? =some oi∧YieldsIf P ops S oi v a∧HW P md ops S Q D r (a.put oi.dst v) w
 |(i,true) :: r,a,w=>wpOp P ops Q i (fun a' w'=>(needs md ops D i=true→S w')∧HW P md ops S Q D r a' w') a w
def wA (md:Region.Mode) (ops:Array Oper) (D:List Nat):Array Bool→List (Nat×Bool)→Bool
 |listed,[]=>(Region.ready md ops listed).isEmpty
 |listed,(i,false) :: r=>D.contains i&&(Region.ready md ops listed).contains i&&Region.free md ops listed i&&wA md ops D (listed.setIfInBounds i true) r
 |listed,(i,true) :: r=>decide (Region.ready md ops listed=[i])&&wA md ops D (listed.setIfInBounds i true) r
def Pn (P:Program) (md:Region.Mode) (ops:Array Oper) (Q:Exit→Act→World→Prop) (S:World→Prop) (D:List Nat):Nat→Array Bool→Act→World→Prop
 |0,listed,a,w=>Region.ready md ops listed=[]∧Q .normal a w
 |f+1,listed,a,w=>(Region.ready md ops listed=[]→Q .normal a w)∧
  ∀ j∈Region.ready md ops listed,wpOp P ops Q j (fun a' w'=>(needs md ops D j=true→S w')∧Pn P md ops Q S D f (listed.setIfInBounds j true) a' w') a w
theorem Cn:∀ (f:Nat) (listed:Array Bool) (a:Act) (w:World),Pn P md ops Q S D f listed a w→wpAny P md ops Q f listed a w
 |0,_,_,_,h=>h
 |f+1,_,_,_,h=>⟨h.1,fun i hi=>wpOp_mono (fun a' w' h'=>Cn f _ a' w' h'.2) (h.2 i hi)⟩
theorem NZ {i:Nat} {oi:Oper} {v:Value} (hD:i∈D) (hi:ops[i]? =some oi) (hsel:∀ (j:Nat) (o:Oper) cs b,ops[j]? =some o→o.op≠ .select cs b) (hQ:∀ c a w,Q (.panic c) (a.put oi.dst v) w→Q (.panic c) a w) (f:Nat):∀ (listed:Array Bool) (a:Act) (w:World),zP md ops listed→(∀ j oj,ops[j]? =some oj→j≠i→listed.getD j true=false→(∀ e∈oj.after,Region.binds md e=true→e.on≠i)→oi.apart ops oj=true)→i∈Region.ready md ops listed→YieldsIf P ops S oi v a→S w→Pn P md ops Q S D f (listed.setIfInBounds i true) (a.put oi.dst v) w→Pn P md ops Q S D (f+1) listed a w:=by
 induction f with
 |zero=>
  intro listed a w _ _ hr hy hS H;refine⟨fun h=>(by rw[h]at hr;cases hr),fun j hj=>?_⟩;by_cases e:j=i
  (·subst e;exact hy.wpOp hi hS ⟨fun _=>hS,H⟩);have h1:=ready_mono hj e;rw[H.1]at h1;cases h1
 |succ f ih=>
  intro listed a w hsh hfree hr hy hS H;refine⟨fun h=>(by rw[h]at hr;cases hr),fun j hj=>?_⟩;by_cases e:j=i
  (·subst e;exact hy.wpOp hi hS ⟨fun _=>hS,H⟩);obtain⟨Zc,oj,Rc,hall⟩:=mem_ready.1 hj;have hun:=(mem_ready.1 hr).1;have hnot:∀ e∈oj.after,Region.binds md e=true→e.on≠i:=fun x hx hb q=>by
   have h1:=hall x hx hb;rw[q,getD_both hun]at h1;cases h1
  have Yg:needs md ops D j=true:=List.any_eq_true.2 ⟨i,hD,by
   rw[Bool.not_eq_true'];cases hw:waits md ops 12 j i with
   |false=>rfl
   |true=>
    have h1:=nW hsh 12 j (fun o ho x hx hb=>by
     have:o=oj:=Option.some.inj (ho.symm.trans Rc);subst this;exact hall x hx hb) hw
    rw[getD_both hun]at h1;cases h1⟩
  have h2:=wpOp_putIf Rc (hfree j oj Rc e Zc hnot) (fun cs b=>hsel i oi cs b hi) (fun cs b=>hsel j oj cs b Rc) hQ hy (H.2 j (ready_mono hj e));refine wpOp_mono (fun a' w' h3=>⟨fun _=>h3.2.1 Yg,ih (listed.setIfInBounds j true) a' w' (hsh.set hj) (fun k ok hk hki hu hno=>?_) (ready_mono hr (Ne.symm e)) h3.1 (h3.2.1 Yg) (by rw[Array.setIfInBounds_comm _ _ e];exact h3.2.2)⟩) h2;refine hfree k ok hk hki ?_ hno;by_cases q:j=k
  (·subst q;exact Zc);rw[getD_set_ne true q]at hu;exact hu
theorem qu (hsel:Region.noSelect ops=true) (hQ:∀ (d:Option Tmp) (v:Value) c a w,Q (.panic c) (a.put d v) w→Q (.panic c) a w):∀ (ord:List (Nat×Bool)) (listed:Array Bool) (a:Act) (w:World),zP md ops listed→
 wA md ops D listed ord=true→((∃ d∈D,listed.getD d true=false)→S w)→HW P md ops S Q D ord a w→Pn P md ops Q S D ord.length listed a w
 |[],listed,a,w,_,hB,_,h=>⟨by simpa [wA]using hB,h⟩
 |(i,false) :: r,listed,a,w,hsh,hB,hS,⟨oi,v,hi,hy,h⟩=>by
  simp only[wA,aag]at hB;obtain⟨⟨⟨hD,hr⟩,hf⟩,hB'⟩:=hB;have hD':i∈D:=(by simpa using hD);have hr':i∈Region.ready md ops listed:=(by simpa using hr);have hSw:S w:=hS ⟨i,hD',(mem_ready.1 hr').1⟩;exact NZ hD' hi (Region.noSelect_spec hsel) (hQ oi.dst v) r.length listed a w hsh (Region.free_spec hi hf) hr' hy hSw (qu hsel hQ r _ _ w (hsh.set hr') hB' (fun _=>hSw) h)
 |(i,true) :: r,listed,a,w,hsh,hB,hS,h=>by
  simp only[wA,aag,decide_eq_true_eq]at hB;refine⟨fun h0=>(by rw[hB.1]at h0;cases h0),fun j hj=>?_⟩;rw[hB.1]at hj;(obtain rfl:j=i:=by simpa using hj);have hj':j∈Region.ready md ops listed:=(by rw[hB.1];simp);refine wpOp_mono (fun a' w' h3=>⟨h3.1,qu hsel hQ r _ a' w' (hsh.set hj') hB.2 (fun⟨d,hd,hu⟩=>?_) h3.2⟩) h;refine h3.1 (List.any_eq_true.2 ⟨d,hd,?_⟩);rw[Bool.not_eq_true'];cases hw:waits md ops 12 j d with
  |false=>rfl
  |true=>
   obtain⟨_,oj,Rc,hall⟩:=mem_ready.1 hj';have h1:=getD_set_true (i:=j) (nW hsh 12 j (fun o ho x hx hb=>by
    have:o=oj:=Option.some.inj (ho.symm.trans Rc);subst this;exact hall x hx hb) hw)
   rw[getD_both hu]at h1;cases h1
theorem cV {id:Nat} {a:Act} {w:World} {l:List Oper} (D:List Nat) (ord:List (Nat×Bool)) (hm:P.follows .mixedOrders=true) (hsel:Region.noSelect l.toArray=true) (hQ:∀ (d:Option Tmp) (v:Value) c a w,Q (.panic c) (a.put d v) w→Q (.panic c) a w) (hn:ord.length=l.length) (hB:wA .any l.toArray D (Array.replicate l.toArray.size false) ord=true) (hS:S w.drew) (h:HW P .any l.toArray S Q D ord a w.drew):(Code.region id l.toArray true).wp P Q a w:=by
 refine wp_region_any hm ?_;have:=Cn _ _ _ _ (qu (P:=P) (md:= .any) hsel hQ ord _ a w.drew (fun j oj _ hl=>(by rw[getD_replicate_false]at hl;cases hl)) hB (fun _=>hS) h);rw[hn]at this;simpa using this
theorem eD {a:Act} {w:World} (h:Q .normal a w):HW P md ops S Q D [] a w:=h
theorem Wl {i:Nat} {oi:Oper} {r:List (Nat×Bool)} {a:Act} {w:World} (hi:ops[i]? =some oi)
 (h:∀ K':Act→World→Prop,Shut (∀ a w,S w→HW P md ops S Q D r a w→K' a w)→if Region.wanted oi (yielded ops a.tmps)=true then Oper.wp P oi a w K' Q else K' (a.put oi.dst undef) w):HW P md ops S Q D ((i,true) :: r) a w:=
 wpOp_step hi (fun K' hK=>h K' (fun a w hS hW=>hK a w ⟨fun _=>hS,hW⟩))
theorem Zo {i:Nat} {oi:Oper} {r:List (Nat×Bool)} {a:Act} {w:World} (hi:ops[i]? =some oi) (hn:needs md ops D i=false)
 (h:∀ K':Act→World→Prop,Shut (∀ a w,HW P md ops S Q D r a w→K' a w)→if Region.wanted oi (yielded ops a.tmps)=true then Oper.wp P oi a w K' Q else K' (a.put oi.dst undef) w):HW P md ops S Q D ((i,true) :: r) a w:=
 wpOp_step hi (fun K' hK=>h K' (fun a w hW=>hK a w ⟨fun q=>(by rw[hn]at q;cases q),hW⟩))
end
end
section
section
variable {P:Program} {ops:Array Oper} {md:Region.Mode} {S:World→Prop} {Q:Exit→Act→World→Prop} {D:List Nat}
theorem hwr {i:Nat} {d:Option Tmp} {op:Op} {ty:TypeId} {pos:String} {AZ:Array Edge} {gd:Option (Nat×Bool)} {v:Value} {r:List (Nat×Bool)} {a a':Act} {w:World} (h:HW P md ops S Q D r (a'.put d v) w) (ha:a=a':=by first|(simp only[Act.put,List.setIfInBounds_toArray,List.set_cons_zero,List.set_cons_succ];done)|(simp only[Act.put,List.setIfInBounds_toArray,List.set_cons_zero,List.set_cons_succ];rfl)|rfl) (hi:ops[i]? =some ⟨d,op,ty,pos,AZ,gd⟩:=by rfl) (hw:Region.wanted ⟨d,op,ty,pos,AZ,gd⟩ (yielded ops a'.tmps)=true:=by kernel_rfl)
 (hy:∀ W,S W→(execOp a'.eval ⟨d,op,ty,pos,AZ,gd⟩).run P W= .ok (.value v) W:=by
  intro wq hSw;(try dsimp only at hSw);first
   |(go_simp;done)
   |(go_simp;with_reducible rfl)
   |(subst hSw;first|(go_simp;done)|(go_simp;with_reducible rfl))
   |(obtain⟨u,rfl⟩:=hSw;first|(go_simp;done)|(go_simp;with_reducible rfl))
   |(obtain⟨hS1,hS2⟩:=hSw;first|(go_simp;done)|(go_simp;with_reducible rfl))
   |(obtain⟨hS1,hS2,hS3,hS4⟩:=hSw;first|(go_simp;done)|(go_simp;with_reducible rfl))):HW P md ops S Q D ((i,false) :: r) a w:=ha▸⟨⟨d,op,ty,pos,AZ,gd⟩,v,hi,.inl ⟨hw,hy⟩,h⟩
theorem Zp {i:Nat} {d:Option Tmp} {op:Op} {ty:TypeId} {pos:String} {AZ:Array Edge} {gd:Option (Nat×Bool)} {r:List (Nat×Bool)} {a a':Act} {w:World} (h:HW P md ops S Q D r (a'.put d undef) w) (ha:a=a':=by first|(simp only[Act.put,List.setIfInBounds_toArray,List.set_cons_zero,List.set_cons_succ];done)|(simp only[Act.put,List.setIfInBounds_toArray,List.set_cons_zero,List.set_cons_succ];rfl)|rfl) (hi:ops[i]? =some ⟨d,op,ty,pos,AZ,gd⟩:=by rfl) (hw:Region.wanted ⟨d,op,ty,pos,AZ,gd⟩ (yielded ops a'.tmps)=false:=by kernel_rfl):
 HW P md ops S Q D ((i,false) :: r) a w:=ha▸⟨⟨d,op,ty,pos,AZ,gd⟩,undef,hi,.inr ⟨hw,rfl⟩,h⟩
theorem hwt {i:Nat} {d:Option Tmp} {op:Op} {ty:TypeId} {pos:String} {AZ:Array Edge} {gd:Option (Nat×Bool)} {r:List (Nat×Bool)} {a a':Act} {w:World}
 (h:∀ K':Act→World→Prop,Shut (∀ a w,S w→HW P md ops S Q D r a w→K' a w)→if Region.wanted ⟨d,op,ty,pos,AZ,gd⟩ (yielded ops a'.tmps)=true then Oper.wp P ⟨d,op,ty,pos,AZ,gd⟩ a' w K' Q else K' (a'.put d undef) w) (ha:a=a':=by first|(go_frame;done)|(go_frame;rfl)|rfl) (hi:ops[i]? =some ⟨d,op,ty,pos,AZ,gd⟩:=by rfl):HW P md ops S Q D ((i,true) :: r) a w:=ha▸Wl hi h
theorem xN {i:Nat} {d:Option Tmp} {op:Op} {ty:TypeId} {pos:String} {AZ:Array Edge} {gd:Option (Nat×Bool)} {r:List (Nat×Bool)} {a a':Act} {w:World}
 (h:∀ K':Act→World→Prop,Shut (∀ a w,HW P md ops S Q D r a w→K' a w)→if Region.wanted ⟨d,op,ty,pos,AZ,gd⟩ (yielded ops a'.tmps)=true then Oper.wp P ⟨d,op,ty,pos,AZ,gd⟩ a' w K' Q else K' (a'.put d undef) w) (ha:a=a':=by first|(go_frame;done)|(go_frame;rfl)|rfl) (hi:ops[i]? =some ⟨d,op,ty,pos,AZ,gd⟩:=by rfl) (hn:needs md ops D i=false:=by kernel_rfl):HW P md ops S Q D ((i,true) :: r) a w:=ha▸Zo hi hn h
end
end
end
open Go Go.RowKit Bg
def N0 (b:Bool) (w:World) (e:Ending) (w':World):Prop:=e= .returned (.bool b)∧Below w w w'
def bigV (b:iN) (A:Option Addr) (c:Nat):Value:= .agg #[bU b.sign,bW A b.dg c]
theorem Po {l:List Int} {k:Nat} (h:∀ i,i<k→0≤l.getD i 0∧l.getD i 0≤1048575) (hx:0≤l.getD k 0∧l.getD k 0≤1048575):∀ i,i<k+1→0≤l.getD i 0∧l.getD i 0≤1048575:=by
 intro i hi;rcases Nat.lt_or_ge i k with h1|h1
 (·exact h i h1);(obtain rfl:i=k:=by omega);exact hx
theorem Si {l:List Int} (h:∀ i,i<l.length→0≤l.getD i 0∧l.getD i 0≤1048575):DY l=true:=by
 rw[qh]
 intro d hd
 obtain⟨i,hi,rfl⟩:=List.getElem_of_mem hd
 have:=h i hi
 rwa [aam,List.getElem?_eq_getElem hi,Option.getD_some]at this
theorem I4 {l:List Int} {k:Nat} (hk:k<l.length) (h:¬(0≤l.getD k 0∧l.getD k 0≤1048575)):DY l=false:=by
 rw[Bool.eq_false_iff];intro hd;rw[qh]at hd;refine h ?_;rw[aam,List.getElem?_eq_getElem hk,Option.getD_some];exact hd _ (aan hk)
theorem Pp (b:iN) (A:Option Addr) (c:Nat) (w:World) (ha:ji w A (b.dg.map iv)) (hl:b.dg.length≤1000000):Calls prog 283 #[bigV b A c] w (N0 (dD b) w):=by
 obtain⟨s,l⟩:=b;simp only[bigV]at*;go_enter func283,ntmps283;go_wp2;go_loop [12] (fun t=>∃ k:Nat,k≤l.length∧t=bU (k:Int)∧Hid (∀ i,i<k→0≤l.getD i 0∧l.getD i 0≤1048575)) (fun t=>l.length - (intOf t).toNat);(case atStart=>exact⟨0,aaG _,rfl,fun i hi=>absurd hi (Nat.not_lt_zero _)⟩);obtain⟨k,hk,rfl,HD⟩:=hrel;have hbl:Below w w (w.alloc (.cells #[bU s,bW A l c] 161)):=cS _;by_cases hlt:k<l.length
 ·obtain⟨b1,off1,rfl,Co,hcell⟩:=ha.int hlt;generalize hx:l.getD k 0=x at hcell;by_cases hx0:x<0
  ·have HR:=aa (show dD ⟨s,l⟩=false by
    simp only[dD,I4 hlt (by rw[hx];omega),Bool.false_and])
   clear hx;go_wp2;go_ret;exact⟨cU HR.o.symm,hbl⟩
  by_cases hx1:1048575<x
  ·have HR:=aa (show dD ⟨s,l⟩=false by
    simp only[dD,I4 hlt (by rw[hx];omega),Bool.false_and])
   clear hx;have hx2:decide (x<0)=false:=(by simpa using hx0);go_wp2;go_ret;exact⟨cU HR.o.symm,hbl⟩
  have HN:=aa (Po HD.o (by rw[hx];omega));clear hx;have hx2:decide (x<0)=false:=(by simpa using hx0);have hx3:decide (1048575<x)=false:=(by simpa using hx1);go_wp2;go_round;exact⟨k+1,by omega,by go_num,HN⟩;simp[intOf];omega
 (obtain rfl:k=l.length:=by omega);have HA:=aa (Si HD.o);by_cases h0:l=[]
 (·subst h0;have HR:=aa (show dD ⟨s,[]⟩=(s==0) by simp[dD,DY]);have hz:(((([]:List Int).length:Nat):Int)==0)=true:=ai;go_wp2;go_ret;exact⟨cU HR.o.symm,hbl⟩);have hp:0<l.length:=List.length_pos_iff.2 h0;obtain⟨b1,off1,rfl,Co,hcell⟩:=ha.int (k:=l.length - 1) af;generalize hx:l.getD (l.length - 1) 0=x at hcell;have HR:=aa (show dD ⟨s,l⟩=((s==1||s==-1)&&x != 0) by
  have e1:l.isEmpty=false:=aS;have e2:l.getLastD 0=x:=by
   rw[← hx,List.getLastD_eq_getLast?,List.getLast?_eq_some_getLast h0,List.getLast_eq_getElem,aam,List.getElem?_eq_getElem af]
  simp only[dD,HA.o,e1,e2,Bool.false_and,Bool.false_or,Bool.true_and,Bool.not_false])
 have hz:((l.length:Int)==0)=false:=(by simp;exact h0);have hi:((l.length:Int) - 1).toNat=l.length - 1:=af;clear hx;cases h1:(s==1)with
 |true=>
  go_wp2;go_ret;exact⟨cU (by rw[HR.o,h1];simp),hbl⟩
 |false=>
  cases h2:(s==-1)with
  |true=>
   go_wp2;go_ret;exact⟨cU (by rw[HR.o,h1,h2];simp),hbl⟩
  |false=>
   go_wp2;go_ret;exact⟨cU (by rw[HR.o,h1,h2];simp),hbl⟩
end Go.Proofs.YtfppbjfnllhgcaaGreat
