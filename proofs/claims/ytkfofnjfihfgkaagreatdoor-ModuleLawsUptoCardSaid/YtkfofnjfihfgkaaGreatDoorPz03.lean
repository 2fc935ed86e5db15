/- Parts of the proof, packed (ShelfQ to ShelfI); each theorem bears its own conditions. -/
import Derived.Shelf.Small.Wraps
import Derived.Shelf.Strings.BuilderK
import Derived.Shelf.Strings.OnBuilder
import Derived.Shelf.Strconv.Itoa3
import Derived.Lib.FrozenHead2
import Derived.Shelf.SlicesE.IndexFunc
import Derived.Ground.SlgfProg
import Derived.Test.YtkfofnjfihfgkaaGreatDoorPz02
set_option linter.unusedVariables false
set_option linter.unusedSimpArgs false
set_option maxRecDepth 100000
set_option maxHeartbeats 8000000
open Go.Proofs.Tryz
open Go.Lib renaming hid → aa
theorem ai {p:Prop} (h:p:=by kernel_rfl):p:=h
theorem bP {p:Prop} (h:p:=by rw[Lib.cell_of_heap hbk];rfl):p:=h
theorem aaq {p:Prop} (h:p:=by rw[Lib.cell_of_heap hb2];rfl):p:=h
theorem aQ {p:Prop} (h:p:=by rw[Bool.eq_iff_iff];simp[← UInt8.toNat_inj];omega):p:=h
theorem aak {p:Prop} (h:p:=by rw[HR.o];simp[p0.o]):p:=h
theorem aV {p:Prop} (h:p:=by rw[HR.o];simp[p0.o,m2.o,p1.o,p2.o,p3.o,p4.o,p5.o,p10.o,p11.o,HP.o]):p:=h
namespace Go.Proofs
open Go.Shelf
def zH:Go.Shelf.Ren:=⟨fun|169=>190|n=>n,fun|70=>249|9=>9|0=>0|72=>252|37=>250|127=>293|3=>3|5=>5|n=>n,fun|n=>n⟩
theorem Zr:Go.Proofs.Lays.n169 prog zH:={
 mixed:=by kernel_rfl
 f169:=Tryz.func190.trans (congrArg some ai)
 t0:=Tryz.underlying0
 a0:=Tryz.isAgg0
 z0:=Tryz.sizeOf0
 v0:=Tryz.zeroValue0
 t3:=Tryz.underlying3
 a3:=Tryz.isAgg3
 z3:=Tryz.sizeOf3
 v3:=Tryz.zeroValue3
 t9:=Tryz.underlying9
 a9:=Tryz.isAgg9
 z9:=Tryz.sizeOf9
 v9:=Tryz.zeroValue9
 t37:=Tryz.underlying250
 a37:=Tryz.isAgg250
 z37:=Tryz.sizeOf250
 v37:=Tryz.zeroValue250
 t70:=Tryz.underlying249
 a70:=Tryz.isAgg249
 z70:=Tryz.sizeOf249
 v70:=Tryz.zeroValue249
 t72:=Tryz.underlying252
 a72:=Tryz.isAgg252
 z72:=Tryz.sizeOf252
 v72:=Tryz.zeroValue252
 t127:=Tryz.underlying293
 a127:=Tryz.isAgg293
 z127:=Tryz.sizeOf293
 v127:=Tryz.zeroValue293}
theorem wK:Builder.Extra prog zH:={
 sizeBuilder:=by kernel_rfl
 liesBuilder:=by kernel_rfl
 t5:=Tryz.underlying5
 a5:=Tryz.isAgg5
 z5:=Tryz.sizeOf5
 v5:=Tryz.zeroValue5
 infoByte:=by kernel_rfl
 cellsByte:=by kernel_rfl
 sizeByte:=by kernel_rfl
 neB5:=by decide}
def Gz:Go.Shelf.Ren:=⟨fun|171=>143|243=>188|246=>228|283=>266|284=>267|285=>268|286=>269|129=>284|317=>283|318=>285|319=>286|320=>287|337=>291|338=>292|n=>n,fun|3=>3|9=>9|2=>2|4=>4|171=>309|0=>0|53=>259|37=>250|5=>5|173=>312|212=>321|51=>322|20=>20|213=>323|46=>260|232=>331|233=>332|n=>n,fun|17=>0|18=>2|19=>3|n=>n⟩
theorem UE:Go.Proofs.LaysM.n171 prog Gz:={
 mixed:=by kernel_rfl
 f129:=Tryz.func284.trans (congrArg some ai)
 f171:=Tryz.func143.trans (congrArg some ai)
 f243:=Tryz.func188.trans (congrArg some ai)
 f246:=Tryz.func228.trans (congrArg some ai)
 f283:=Tryz.func266.trans (congrArg some ai)
 f284:=Tryz.func267.trans (congrArg some ai)
 f285:=Tryz.func268.trans (congrArg some ai)
 f286:=Tryz.func269.trans (congrArg some ai)
 f317:=Tryz.func283.trans (congrArg some ai)
 f318:=Tryz.func285.trans (congrArg some ai)
 f319:=Tryz.func286.trans (congrArg some ai)
 f320:=Tryz.func287.trans (congrArg some ai)
 f337:=Tryz.func291.trans (congrArg some ai)
 f338:=Tryz.func292.trans (congrArg some ai)
 t0:=Tryz.underlying0
 a0:=Tryz.isAgg0
 z0:=Tryz.sizeOf0
 v0:=Tryz.zeroValue0
 t2:=Tryz.underlying2
 a2:=Tryz.isAgg2
 z2:=Tryz.sizeOf2
 v2:=Tryz.zeroValue2
 t3:=Tryz.underlying3
 a3:=Tryz.isAgg3
 z3:=Tryz.sizeOf3
 v3:=Tryz.zeroValue3
 t4:=Tryz.underlying4
 a4:=Tryz.isAgg4
 z4:=Tryz.sizeOf4
 v4:=Tryz.zeroValue4
 t5:=Tryz.underlying5
 a5:=Tryz.isAgg5
 z5:=Tryz.sizeOf5
 v5:=Tryz.zeroValue5
 t9:=Tryz.underlying9
 a9:=Tryz.isAgg9
 z9:=Tryz.sizeOf9
 v9:=Tryz.zeroValue9
 t20:=Tryz.underlying20
 a20:=Tryz.isAgg20
 z20:=Tryz.sizeOf20
 v20:=Tryz.zeroValue20
 t37:=Tryz.underlying250
 a37:=Tryz.isAgg250
 z37:=Tryz.sizeOf250
 v37:=Tryz.zeroValue250
 t46:=Tryz.underlying260
 a46:=Tryz.isAgg260
 z46:=Tryz.sizeOf260
 v46:=Tryz.zeroValue260
 t51:=Tryz.underlying322
 a51:=Tryz.isAgg322
 z51:=Tryz.sizeOf322
 v51:=Tryz.zeroValue322
 t53:=Tryz.underlying259
 a53:=Tryz.isAgg259
 z53:=Tryz.sizeOf259
 v53:=Tryz.zeroValue259
 t171:=Tryz.underlying309
 a171:=Tryz.isAgg309
 z171:=Tryz.sizeOf309
 v171:=Tryz.zeroValue309
 t173:=Tryz.underlying312
 a173:=Tryz.isAgg312
 z173:=Tryz.sizeOf312
 v173:=Tryz.zeroValue312
 t212:=Tryz.underlying321
 a212:=Tryz.isAgg321
 z212:=Tryz.sizeOf321
 v212:=Tryz.zeroValue321
 t213:=Tryz.underlying323
 a213:=Tryz.isAgg323
 z213:=Tryz.sizeOf323
 t232:=Tryz.underlying331
 a232:=Tryz.isAgg331
 z232:=Tryz.sizeOf331
 v232:=Tryz.zeroValue331
 t233:=Tryz.underlying332
 a233:=Tryz.isAgg332
 z233:=Tryz.sizeOf332
 v233:=Tryz.zeroValue332
 g17:=by kernel_rfl
 g18:=by kernel_rfl
 g19:=by kernel_rfl
 i0:=by kernel_rfl
 i2:=by kernel_rfl
 i3:=by kernel_rfl
 i4:=by kernel_rfl
 i5:=by kernel_rfl
 i9:=by kernel_rfl
 i20:=by kernel_rfl
 i37:=by kernel_rfl
 i46:=by kernel_rfl
 i51:=by kernel_rfl
 i53:=by kernel_rfl
 i171:=by kernel_rfl
 i173:=by kernel_rfl
 i212:=by kernel_rfl
 i232:=by kernel_rfl
 i233:=by kernel_rfl
 m17:=by kernel_rfl
 m18:=by kernel_rfl
 m19:=by kernel_rfl}
def Jt:Go.Shelf.Ren:=⟨fun|103=>162|210=>195|206=>231|n=>n,fun|9=>9|4=>4|24=>57|3=>3|n=>n,fun|n=>n⟩
theorem Zs:Go.Proofs.Lays.n103 prog Jt:={
 mixed:=by kernel_rfl
 f103:=Tryz.func162.trans (congrArg some ai)
 f206:=Tryz.func231.trans (congrArg some ai)
 f210:=Tryz.func195.trans (congrArg some ai)
 t3:=Tryz.underlying3
 a3:=Tryz.isAgg3
 z3:=Tryz.sizeOf3
 v3:=Tryz.zeroValue3
 t4:=Tryz.underlying4
 a4:=Tryz.isAgg4
 z4:=Tryz.sizeOf4
 v4:=Tryz.zeroValue4
 t9:=Tryz.underlying9
 a9:=Tryz.isAgg9
 z9:=Tryz.sizeOf9
 v9:=Tryz.zeroValue9
 t24:=Tryz.underlying57
 a24:=Tryz.isAgg57
 z24:=Tryz.sizeOf57
 v24:=Tryz.zeroValue57}
end Go.Proofs
namespace Go.Proofs.YtkfofnjfihfgkaaGreatDoor
open Go Go.RowKit Go.Proofs
def zI (l:List UInt8) (w:World) (e:Ending) (w':World):Prop:=e= .returned (bV ⟨l.toArray⟩)∧Below w w w'
theorem Tryz.sizeBuilder:(Tryz.prog.info? 252).map (·.size)=some 2:=by kernel_rfl
theorem Tryz.liesBuilder:liesAt prog Tryz.prog.depth 252 (2 / Tryz.prog.cellsOf 252) 0 252 1=true:=by kernel_rfl
theorem Ry (b:Nat) (w:World) (h0:bW w b 0 (.pointer (bS b 0))):Calls prog 229 #[.pointer (bS b 0)] w fun e w'=>e= .returned (.tuple #[])∧w'=w:=by
 obtain⟨j,hj,_⟩:=Option.map_eq_some_iff.1 Tryz.sizeBuilder;go_enter func229,ntmps229;go_wp2;rw[Lib.run_neq_ptr_same w _ Tryz.underlying249 hj];go_wp2;go_end0;exact⟨rfl,rfl⟩
theorem Cc (b:Nat) (w:World) (h0:bW w b 0 (.pointer none)) (hsh:w.shape? b=some (252,2)) (hfz:w.frozen? (bS b 0)=false):Calls prog 229 #[.pointer (bS b 0)] w fun e w'=>e= .returned (.tuple #[])∧w'=w.setCell (bS b 0) (.pointer (bS b 0)):=by
 obtain⟨j,hj,hjs⟩:=Option.map_eq_some_iff.1 Tryz.sizeBuilder;go_enter func229,ntmps229;go_wp2;rw[Lib.run_to_unsafe w (bS b 0) Tryz.underlying249 Tryz.underlying314 hj (by rw[hjs];decide) hsh (Nat.zero_lt_succ 1)];simp only[Result.andThen];rw[Oper.upon_value];go_wp2;rw[run_callFunc_extern func270 ai ai ai (e:=Extern.AbiNoEscape.same) ai];rw[Lib.run_noEscape];simp only[Result.andThen];rw[Oper.upon_value];go_wp2;rw[Lib.run_from_unsafe w (bS b 0) Tryz.underlying314 Tryz.underlying249 hj hsh Tryz.liesBuilder];simp only[Result.andThen];rw[Oper.upon_value];go_wp2;go_end0;exact⟨rfl,rfl⟩
abbrev TB:Nat:=252
abbrev TU:Nat:=5
theorem Tryz.infoByte:(Tryz.prog.info? 5).map (fun i=>(i.zero,i.size,i.bytes))=some (some (.int .u8 0),1,1):=by kernel_rfl
theorem UF (B b:Nat) (bs:List Value) (w:World) (h:Lib.IsBuilderF TB TU B b bs w):Calls prog 229 #[.pointer (bS b 0)] w fun e w'=>e= .returned (.tuple #[])∧Lib.BuilderAtF TB TU B b (.pointer (bS b 0)) bs w'∧Below B w w':=by
 rcases h with h|h
 (·refine(Cc b w h.cell0 h.shape h.frozen0).mono ?_;rintro e w' ⟨rfl,rfl⟩;exact⟨rfl,h.used _,(Below.refl B w).setCell (p:=bS b 0) h.1 _⟩);refine(Ry b w h.cell0).mono ?_;rintro e w' ⟨rfl,rfl⟩;exact⟨rfl,h,Below.refl B _⟩
theorem GA (B b:Nat) (bs:List Value) (s:ByteArray) (w:World) (h:Lib.IsBuilderF TB TU B b bs w) (hlen:bs.length+s.size≤140737488355328) (hBw:B≤w.heap.size):Calls prog 192 #[.pointer (bS b 0),bV s] w fun e w'=>e= .returned (.tuple #[bR s.size,.nilIface])∧Lib.IsBuilderF TB TU B b (bs++Lib.strCells s) w'∧Below B w w':=by
 obtain⟨i0,hi,hz0,hz1,hz2⟩:=info_parts Tryz.infoByte;have H:=aa h;clear h;go_enter func192,ntmps192;go_wp2_with (go_at_call 229;refine(UF B b bs _ H.o).mono ?_);rintro e w1 ⟨rfl,h1,hb1⟩;obtain⟨hB,v,hbk,hown,hne⟩:=h1;have c0:bW w1 b 0 (.pointer (bS b 0)):=bP;have c1:bW w1 b 1 v:=bP;have Uc:=aa hbk;have HOW:=aa hown;have GC:=aa hne;have eJ:=aa hb1;have hw1:=hb1.size;clear hbk hown hne hb1;go_wp2_with (at_builtin;refine Lib.wpList_append_own_stringF _ rfl _ _ 250 9 rfl B 5 i0 Tryz.underlying250 Tryz.underlying9 hi hz0 hz1 hz2 _ _ _ rfl HOW.o s rfl ?c3 ?c4 ?c5 ?_);(case c3=>unfold maxLen;omega);(case c4=>omega);(case c5=>omega);intro v' w2 hown' hgrow _;have hlt:b<w1.heap.size:=(Array.getElem?_eq_some_iff.1 Uc.o).1;have hb2:w2.heap[b]? =some (.cells #[.pointer (bS b 0),v] 252 (0,0)):=by
  rw[hgrow.block b hlt (fun e=>GC.o e.symm)];exact Uc.o
 have d0:bW w2 b 0 (.pointer (bS b 0)):=aaq;have d1:bW w2 b 1 v:=aaq;have f1:w2.frozen? (bS b 1)=false:=Lib.frozen_of_heap hb2 1;obtain⟨ao,n',cap,rfl⟩:∃ ao n' cap,v'=bQ ao n' cap:=by
  rcases hown'.2 with⟨hv,_⟩|⟨g,cap,cur,fz,hv,_⟩
  (·exact⟨_,_,_,hv⟩);exact⟨_,_,_,hv⟩
 have HO':=aa hown';have HG:=aa hgrow;have eT:=aa hb2;clear hown' hgrow hb2;go_wp2;go_ret2;refine⟨rfl,.inr ?_,?_⟩
 (·exact Lib.BuilderAtF.put (T:=TB) (e:=TU) hB eT.o (bs':=bs++Lib.strCells s) (by simpa [Lib.strCells_length]using HO'.o) ag);exact(eJ.o.grown HG.o af (fun k hk=>(HOW.o.lt k hk).1)).setCell (p:=bS b 1) hB _
theorem Ju (B b:Nat) (l:List UInt8) (w:World) (h:Lib.IsBuilderF TB TU B b (Lib.byteCells l) w) (hBw:B≤w.heap.size):
 Calls prog 190 #[.pointer (bS b 0)] w fun e w'=>e= .returned (bV ⟨l.toArray⟩)∧Below B w w':=
 (Any.Builder_String_any_k Zr wK B b l w h hBw).mono fun e w' q=>⟨q.1,q.2.2.1⟩
theorem Ce (B b:Nat) (bs:List Value) (c:Int) (w:World) (h:Lib.IsBuilderF TB TU B b bs w) (hlen:bs.length+1≤140737488355328) (hBw:B≤w.heap.size):Calls prog 189 #[.pointer (bS b 0),.int .u8 c] w fun e w'=>e= .returned .nilIface∧Lib.IsBuilderF TB TU B b (bs++[.int .u8 c]) w'∧Below B w w':=by
 obtain⟨i0,hi,hz0,hz1,hz2⟩:=info_parts Tryz.infoByte;have H:=aa h;clear h;go_enter func189,ntmps189;go_wp2_with (go_at_call 229;refine(UF B b bs _ H.o).mono ?_);rintro e w1 ⟨rfl,h1,hb1⟩;obtain⟨hB,v,hbk,hown,hne⟩:=h1;have c0:bW w1 b 0 (.pointer (bS b 0)):=bP;have c1:bW w1 b 1 v:=bP;have Uc:=aa hbk;have HOW:=aa hown;have GC:=aa hne;have eJ:=aa hb1;have hw1:=hb1.size;clear hbk hown hne hb1;go_wp2_with (at_builtin;refine wpList_append_ownF _ rfl _ _ 250 rfl B 5 i0 (.int .u8 0) 1 1 Tryz.underlying250 hi hz0 hz1 hz2 rfl ag _ _ _ rfl (HOW.o.alloc _) (bS w1 0) 1 1 [.int .u8 c] rfl rfl ?c1 ?c2 ?c3 ?c4 ?c5 ?_);case c1=>
  intro j u hj
  match j,hj with
  |0,hj=>simp at hj;subst hj;simp[Addr.add]
 (case c2=>intro u hu;simp at hu;subst hu;rfl);(case c3=>unfold maxLen;omega);(case c4=>omega);(case c5=>simp;omega);intro v' w2 hown' hgrow _;have hlt:b<w1.heap.size:=(Array.getElem?_eq_some_iff.1 Uc.o).1;have hb2:w2.heap[b]? =some (.cells #[.pointer (bS b 0),v] 252 (0,0)):=by
  rw[hgrow.block b aq (fun e=>GC.o e.symm),Lib.alloc_old w1 _ b hlt];exact Uc.o
 have d0:bW w2 b 0 (.pointer (bS b 0)):=aaq;have d1:bW w2 b 1 v:=aaq;have f1:w2.frozen? (bS b 1)=false:=Lib.frozen_of_heap hb2 1;obtain⟨ao,n',cap,rfl⟩:∃ ao n' cap,v'=bQ ao n' cap:=by
  rcases hown'.2 with⟨hv,_⟩|⟨g,cap,cur,fz,hv,_⟩
  (·exact⟨_,_,_,hv⟩);exact⟨_,_,_,hv⟩
 have HO':=aa hown';have HG:=aa hgrow;have eT:=aa hb2;clear hown' hgrow hb2;go_wp2;go_ret;refine⟨rfl,.inr ?_,?_⟩
 (·exact Lib.BuilderAtF.put (T:=TB) (e:=TU) hB eT.o (bs':=bs++[.int .u8 c]) (by simpa using HO'.o) ag);exact((eJ.o.alloc af _).grown HG.o aq (fun k hk=>(HOW.o.lt k hk).1)).setCell (p:=bS b 1) hB _
end Go.Proofs.YtkfofnjfihfgkaaGreatDoor
namespace Go.Proofs.YtkfofnjfihfgkaaGreatDoor
open Go Go.RowKit Kb Sh Go.Proofs
theorem Rz (c:UInt8) (w:World):Calls prog 239 #[.int .u8 (c.toNat:Int)] w fun e w'=>e= .returned (.bool (mZ c))∧w=w':=by
 (have hb:(c.toNat:Int)<256:=by have:=c.toNat_lt;omega);have e1:mZ c=(decide (32≤(c.toNat:Int))&&decide ((c.toNat:Int)≤126)):=by
  unfold mZ;rw[Bool.eq_iff_iff];simp[UInt8.le_iff_toNat_le];omega
 rw[e1];clear e1;generalize (c.toNat:Int)=x at hb ⊢;(by_cases h1:32≤x<;>by_cases h2:x≤126<;>first|omega|(go_enter func239,ntmps239;go_wp2;go_ret;exact⟨by simp[h1,h2],rfl⟩))
theorem Cf (s:ByteArray) (w:World) (hs:s.size≤maxLen):Calls prog 150 #[bV s,.func (.func 239) #[] #[]] w fun e w'=>e= .returned (bR (jD mZ s.data.toList))∧w=w':=by
 unfold maxLen at hs;go_enter func150,ntmps150;go_wp2;go_loop [5] (fun i=>∃ k:Nat,k≤s.size∧i=bR k∧Hid (∀ i,i<k→∀ c,s.data.toList[i]? =some c→mZ c=true)) (fun i=>s.size - (intOf i).toNat);(case atStart=>exact⟨0,Nat.zero_le _,rfl,fun i hi=>absurd hi (Nat.not_lt_zero _)⟩);obtain⟨k,hk,rfl,HA⟩:=hrel;by_cases hlt:k<s.size
 ·have hsz:s.data.toList.length=s.size:=eA s;have B9:s.data.toList[k]? =some s[k]:=bH;have HG:=aa B9;have HS:=aa hsz;clear B9 hsz;have hin:=fun w=>Rz s[k] w;cases hq:mZ s[k]with
  |true=>
   have HQ:=aa hq;rw[hq]at hin;have HI:=aa hin;clear hq hin;go_wp2_with (go_at_call 239;refine(HI.o _).mono ?_;rintro e w' ⟨rfl,rfl⟩);go_round;case rel=>
    refine⟨k+1,by omega,by go_num,fun i hi c hc=>?_⟩;by_cases e:i=k
    (·subst e;rw[HG.o]at hc;cases hc;exact HQ.o);exact HA.o i af c hc
   (case measure=>simp[intOf];omega)
  |false=>
   have HQ:=aa hq;rw[hq]at hin;have HI:=aa hin;clear hq hin;go_wp2_with (go_at_call 239;refine(HI.o _).mono ?_;rintro e w' ⟨rfl,rfl⟩);go_ret;refine⟨?_,rfl⟩;rw[kW mZ s.data.toList k HA.o (by rw[HS.o];omega) (fun c hc=>by rw[HG.o]at hc;cases hc;exact HQ.o)];rfl
 have hsz:s.data.toList.length=s.size:=eA s;have HS:=aa hsz;clear hsz;go_wp2;go_ret;refine⟨?_,rfl⟩;rw[kW mZ s.data.toList k HA.o (by rw[HS.o];omega) (fun c hc=>by rw[List.getElem?_eq_none (by rw[HS.o];omega)]at hc;cases hc)];rfl
def uO (c:UInt8):List UInt8:=if c=34∨c=92 then[92,c]else[c]
theorem Zt (s:Bytes):Rv s=34 :: s.flatMap uO++[34]:=rfl
theorem UG (c:UInt8):(uO c).length≤2:=by unfold uO;split<;>simp
theorem GD:∀ (l:Bytes),(l.flatMap uO).length≤2*l.length
 |[]=>by simp
 |c :: l=>by
  have h1:=UG c;have h2:=GD l;simp only[List.flatMap_cons,List.length_append,List.length_cons];omega
theorem tB (l:List UInt8) (c:UInt8):Lib.byteCells l++[.int .u8 (c.toNat:Int)]=Lib.byteCells (l++[c]):=by
 rw[Lib.byteCells_append];rfl
theorem wL (l:List UInt8):(Lib.byteCells l).length=l.length:=by simp[Lib.byteCells]
def Fk (s:Bytes) (B:Nat) (w wr:World) (k:Nat):Prop:=Lib.IsBuilderF TB TU B B (Lib.byteCells (34 :: (s.take k).flatMap uO)) wr∧Below B w wr
theorem Fk.len {s:Bytes} {B k:Nat} {w wr:World} (hk:k≤s.length):(Lib.byteCells (34 :: (s.take k).flatMap uO)).length≤2*s.length+1:=by
 have:=GD (s.take k);rw[wL,List.length_cons];rw[List.length_take]at this;omega
theorem zJ (s:ByteArray) (w:World) (hs:s.size≤1000000):Calls prog 144 #[bV s] w (zI (Rv s.data.toList) w):=by
 have vS:=eA s;obtain⟨B,hB⟩:∃ B,B=w.heap.size:=⟨_,rfl⟩;have HI0:=aa (Lib.IsBuilderF.of (Lib.fresh_isBuilder TB TU w));go_enter func144,ntmps144;go_wp2_with (go_at_call 189;refine(Ce w w (Lib.byteCells []) 34 _ HI0.o (by simp[Lib.byteCells]) aj).mono ?_);rintro e w1 ⟨rfl,hi1,hb1⟩;have HE1:=aa (show Fk s.data.toList w w w1 0 from⟨(tB [] 34)▸hi1,((Below.refl _ w).alloc (Nat.le_refl _) _).trans hb1⟩);have hw1:w.heap.size≤w1:=HE1.o.2.size;clear hi1 hb1;go_wp2_with fail;go_loopw [8] (fun i wr=>∃ k:Nat,k≤s.size∧i=bR (k:Int)∧Hid (Fk s.data.toList w w wr k)) (fun i _=>s.size - (intOf i).toNat);(case atStart=>exact⟨0,Nat.zero_le _,rfl,HE1.o⟩);obtain⟨k,hk,rfl,HE⟩:=hrel;have hwr:=HE.o.2.size;have hln:=Fk.len (B:=w) (w:=w) (wr:=wr) (s:=s.data.toList) (k:=k) af;rw[vS]at hln;by_cases hlt:k<s.size
 ·have B9:s.data.toList[k]? =some s[k]:=bH;have UH:(s.data.toList.take (k+1))=s.data.toList.take k++[s[k]]:=(by rw[List.take_add_one,B9];rfl);have ew:=aa (show 34 :: (s.data.toList.take (k+1)).flatMap uO=(34 :: (s.data.toList.take k).flatMap uO)++uO s[k] by rw[UH];simp);clear UH B9;generalize hL:34 :: (s.data.toList.take k).flatMap uO=L at ew hln;have HL:=aa hL;(have ug:Lib.IsBuilderF TB TU w w (Lib.byteCells L) wr:=by have:=HE.o.1;rw[hL]at this;exact this);have HI:=aa ug;have oH:=aa HE.o.2;clear hL ug HE;have e1:((s[k].toNat:Int)==34)=decide (s[k]=34):=aQ;have e2:((s[k].toNat:Int)==92)=decide (s[k]=92):=aQ;by_cases hq:s[k]=34∨s[k]=92
  ·have HQ:=aa (show uO s[k]=[92,s[k]] by unfold uO;rw[if_pos hq]);have h9:((s[k].toNat:Int)==34)=true∨(((s[k].toNat:Int)==34)=false∧((s[k].toNat:Int)==92)=true):=by
    rw[e1,e2];by_cases h:s[k]=34
    (·left;simp[h]);right;simp[h]at hq ⊢;exact hq
   clear e1 e2 hq;rcases h9 with h9|⟨h9,h8⟩<;>
    (go_wp2_with fail
     refine(Ce w w (Lib.byteCells L) 92 _ HI.o af hwr).mono ?_
     rintro e w2 ⟨rfl,hi2,hb2⟩
     have zK:=aa (show Lib.IsBuilderF TB TU w w (Lib.byteCells (L++[92])) w2 from(tB L 92)▸hi2)
     have eT:=aa (oH.o.trans hb2)
     have hw2:w.heap.size≤w2:=eT.o.size
     have hl2:(Lib.byteCells (L++[92])).length+1≤140737488355328:=by rw[wL]at hln ⊢;simp;omega
     clear hi2 hb2
     go_wp2_with fail
     refine(Ce w w (Lib.byteCells (L++[92])) _ _ zK.o hl2 hw2).mono ?_
     rintro e w3 ⟨rfl,UI,hb3⟩
     have HE3:=aa (show Fk s.data.toList w w w3 (k+1)from⟨by rw[ew.o,HQ.o];have:=UI;rw[tB]at this;simpa using this,eT.o.trans hb3⟩)
     clear UI hb3
     go_wp2_with fail
     go_roundw
     case rel=>exact⟨k+1,by omega,by go_num,HE3.o⟩
     case measure=>simp[intOf];omega)
  have HQ:=aa (show uO s[k]=[s[k]] by unfold uO;rw[if_neg hq]);have h9:((s[k].toNat:Int)==34)=false:=(by rw[e1];simp;exact fun h=>hq (.inl h));have h8:((s[k].toNat:Int)==92)=false:=(by rw[e2];simp;exact fun h=>hq (.inr h));clear e1 e2 hq;go_wp2_with fail;refine(Ce w w (Lib.byteCells L) _ _ HI.o af hwr).mono ?_;rintro e w3 ⟨rfl,UI,hb3⟩;have HE3:=aa (show Fk s.data.toList w w w3 (k+1)from⟨by rw[ew.o,HQ.o];have:=UI;rw[tB]at this;exact this,oH.o.trans hb3⟩);clear UI hb3;go_wp2_with fail;go_roundw;(case rel=>exact⟨k+1,by omega,by go_num,HE3.o⟩);(case measure=>simp[intOf];omega)
 (obtain rfl:k=s.size:=by omega);have HI:=aa (show Lib.IsBuilderF TB TU w w (Lib.byteCells (34 :: s.data.toList.flatMap uO)) wr by
  have:=HE.o.1;rw[List.take_of_length_le af]at this;exact this)
 have hln2:(Lib.byteCells (34 :: s.data.toList.flatMap uO)).length+1≤140737488355328:=by
  rw[List.take_of_length_le af]at hln;omega
 have oH:=aa HE.o.2;go_wp2_with fail;refine(Ce w w _ 34 _ HI.o hln2 hwr).mono ?_;rintro e w3 ⟨rfl,UI,hb3⟩;have HI3:=aa (show Lib.IsBuilderF TB TU w w (Lib.byteCells (Rv s.data.toList)) w3 from(tB _ 34)▸UI);have gV:=aa (oH.o.trans hb3);have hw3:=gV.o.size;clear UI hb3;go_wp2_with fail;refine(Ju w w _ _ HI3.o hw3).mono ?_;rintro e w4 ⟨rfl,hb4⟩;have mm:=aa (gV.o.trans hb4);clear hb4;go_wp2_with fail;go_ret;exact⟨rfl,mm.o⟩
theorem RA (s:ByteArray) (w:World) (hs:s.size≤maxLen):Calls prog 202 #[bV s] w fun e w'=>(∃ t,e= .returned (.tuple #[bV t,.bool (mz s)]))∧Below w w w':=by
 have vS:=eA s;by_cases h4:s.size≤400
 ·have hsp:=fun W=>Cf s W hs;have hle:=tq mZ s.data.toList;have hall:=yl mZ s.data.toList;rw[vS]at hle hall;have HEs:=aa (fun W=>zJ s W af);have HQ:mz s=decide (jD mZ s.data.toList=s.size):=by
   unfold mz;rw[Bool.eq_iff_iff];simp only[Bool.and_eq_true,decide_eq_true_eq];exact⟨fun h=>hall.2 h.2,fun h=>⟨h4,hall.1 h⟩⟩
  generalize jD mZ s.data.toList=n at hsp HQ hle;have HSp:=aa hsp;have h4':decide (400<(s.size:Int))=false:=aq;clear hall hsp;by_cases hn:n=s.size
  (·have HQ2:=aa (show mz s=true by rw[HQ];simpa using hn);have hnb:((n:Int) != (s.size:Int))=false:=aq;clear HQ hn;go_enter func202,ntmps202;go_wp2_with (first|(go_at_call 150;refine(HSp.o _).mono ?_;rintro e w' ⟨rfl,rfl⟩)|(go_at_call 144;refine(HEs.o _).mono ?_;rintro e w' ⟨rfl,hb1⟩));go_ret2;rw[HQ2.o];exact⟨⟨_,rfl⟩,hb1⟩);have HQ2:=aa (show mz s=false by rw[HQ];simpa using hn);have hnb:((n:Int) != (s.size:Int))=true:=aq;clear HQ hn;go_enter func202,ntmps202;go_wp2_with (first|(go_at_call 150;refine(HSp.o _).mono ?_;rintro e w' ⟨rfl,rfl⟩));go_ret2;rw[HQ2.o];exact⟨⟨_,rfl⟩,Below.refl _ _⟩
 have HQ2:=aa (show mz s=false by unfold mz;simp[h4]);have h4':decide (400<(s.size:Int))=true:=aq;go_enter func202,ntmps202;go_wp2_with fail;go_ret2;rw[HQ2.o];exact⟨⟨_,rfl⟩,Below.refl _ _⟩
theorem tC {W w1:World} (hb:Below W W w1):(∀ b o,b<W.heap.size→w1.cell? (bS b o)=W.cell? (bS b o))∧(∀ b o,b<W.heap.size→w1.frozen? (bS b o)=W.frozen? (bS b o)):=
 ⟨fun b o h=>hb.cell (p:=bS b o) h,fun b o h=>hb.frozen (p:=bS b o) h⟩
theorem fo (s:ByteArray):s.toList.isEmpty=fR s:=by
 unfold fR;rw[Lib.toList_data, ← eA];cases s.data.toList<;>rfl
theorem nil_eq (s:ByteArray):(s.toList==[])=fR s:=by
 rw[← fo];cases s.toList<;>rfl
def uS (op:Int):ByteArray:=
 if op=6 then⟨#[43]⟩else
 if op=7 then⟨#[45]⟩else
 if op=8 then⟨#[42]⟩else
 if op=9 then⟨#[47]⟩else
 if op=12 then⟨#[60]⟩else
 if op=13 then⟨#[61]⟩else
 if op=14 then⟨#[97,110,100]⟩else
 if op=15 then⟨#[111,114]⟩else
 ⟨#[]⟩
theorem Cg (op:Int) (w:World):Calls prog 204 #[bR op] w fun e w'=>e= .returned (.tuple #[bV (uS op),.bool (qp op)])∧w=w':=by
 by_cases h6:op=6
 (·subst h6;go_enter func204,ntmps204;go_wp2;go_ret2;exact⟨rfl,rfl⟩);by_cases h7:op=7
 (·subst h7;go_enter func204,ntmps204;go_wp2;go_ret2;exact⟨rfl,rfl⟩);by_cases h8:op=8
 (·subst h8;go_enter func204,ntmps204;go_wp2;go_ret2;exact⟨rfl,rfl⟩);by_cases h9:op=9
 (·subst h9;go_enter func204,ntmps204;go_wp2;go_ret2;exact⟨rfl,rfl⟩);by_cases h12:op=12
 (·subst h12;go_enter func204,ntmps204;go_wp2;go_ret2;exact⟨rfl,rfl⟩);by_cases h13:op=13
 (·subst h13;go_enter func204,ntmps204;go_wp2;go_ret2;exact⟨rfl,rfl⟩);by_cases h14:op=14
 (·subst h14;go_enter func204,ntmps204;go_wp2;go_ret2;exact⟨rfl,rfl⟩);by_cases h15:op=15
 (·subst h15;go_enter func204,ntmps204;go_wp2;go_ret2;exact⟨rfl,rfl⟩);have e6:(op==6)=false:=(by simpa using h6);have e7:(op==7)=false:=(by simpa using h7);have e8:(op==8)=false:=(by simpa using h8);have e9:(op==9)=false:=(by simpa using h9);have e12:(op==12)=false:=(by simpa using h12);have e13:(op==13)=false:=(by simpa using h13);have e14:(op==14)=false:=(by simpa using h14);have e15:(op==15)=false:=(by simpa using h15);have H1:=aa (show uS op=⟨#[]⟩ by unfold uS;simp[h6,h7,h8,h9,h12,h13,h14,h15]);have H2:=aa (show qp op=false by unfold qp;simp;omega);clear h6 h7 h8 h9 h12 h13 h14 h15;rw[H1.o,H2.o];go_enter func204,ntmps204;go_wp2;go_ret2;exact⟨rfl,rfl⟩
def Ch (b:Bool) (w:World) (e:Ending) (w':World):Prop:=e= .returned (.bool b)∧Below w w w'
theorem UJ (op n:Int) (unit name:ByteArray) (A:Option Addr) (k c:Nat) (w:World) (hu:unit.size≤maxLen) (hn:name.size≤maxLen):Calls prog 172 #[.agg #[bR op,bR n,bV unit,bV name,bQ A k c]] w (Ch (mA op n unit name k) w):=by
 have hq:=fun W=>RA unit W hu;have hnm:=fun W=>Rw name W hn;have ho:=fun W=>Cg op W;have n1:=fo name;have n2:=nil_eq name;have u1:=fo unit;have u2:=nil_eq unit;have hr:mA op n unit name k=(if op=0 then mz unit&&decide (0≤n)&&decide (n≤1099511627776)&&fR name&&((k:Int)==0)
  else if !(n==0)|| !fR unit then false
  else if op=1 then cT name&&((k:Int)==0)
  else if op=2 then cT name&&((k:Int)==1)
  else if op=3 then cT name&&decide (1≤(k:Int))&&decide ((k:Int)≤6)
  else if op=4 then fR name&&((k:Int)==1)
  else if op=5 then fR name&&((k:Int)==3)
  else if op=10||op=11 then fR name&&((k:Int)==2)
  else qp op&&fR name&&((k:Int)==2)):=by
  have z:∀ m:Nat,(k==m)=((k:Int)==(m:Int)):=fun m=>by rw[Bool.eq_iff_iff];simp;omega
  have z1:decide (1≤k)=decide (1≤(k:Int)):=by rw[decide_eq_decide];omega
  have z6:decide (k≤6)=decide ((k:Int)≤6):=by rw[decide_eq_decide];omega
  unfold mA
  rw[z 0,z 1,z 2,z 3,z1,z6]
  rfl
 have hk0:0≤(k:Int):=af;generalize mA op n unit name k=R at hr ⊢;generalize k0:((k:Int)==0)=b0 at hr;generalize k1:((k:Int)==1)=b1 at hr;generalize k2:((k:Int)==2)=b2 at hr;generalize k3:((k:Int)==3)=b3 at hr;generalize g1:decide (1≤(k:Int))=c1 at hr;generalize g6:decide ((k:Int)≤6)=c6 at hr;generalize x0:decide (0≤n)=y0 at hr;generalize x1:decide (n≤1099511627776)=y1 at hr;generalize mz unit=q at hq hr;generalize cT name=f at hnm hr;generalize fR name=z at n1 n2 hr;generalize fR unit=y at u1 u2 hr;generalize hop:qp op=ob at ho hr;have HR:=aa hr;have HQ:=aa hq;have HN:=aa hnm;have HO:=aa ho;have HP:=aa hop;clear hu hn hop hr hq hnm ho;cases o0:(op==0)with
 |true=>
  have p0:=aa (eq_of_beq o0);cases q with
  |false=>
   go_enter func172,ntmps172;go_wp2_with (first|(go_at_call 202;refine(HQ.o _).mono ?_;rintro e w1 ⟨⟨t,rfl⟩,hb1⟩;obtain⟨hc1,jH⟩:=tC hb1)|(go_at_call 203;refine(HN.o _).mono ?_;rintro e w1 ⟨rfl,rfl⟩)|(go_at_call 204;refine(HO.o _).mono ?_;rintro e w1 ⟨rfl,rfl⟩));go_ret;exact⟨cP aak,(cJ _).trans (hb1.mono aj)⟩
  |true=>
   cases y0 with
   |false=>
    go_enter func172,ntmps172;go_wp2_with (first|(go_at_call 202;refine(HQ.o _).mono ?_;rintro e w1 ⟨⟨t,rfl⟩,hb1⟩;obtain⟨hc1,jH⟩:=tC hb1)|(go_at_call 203;refine(HN.o _).mono ?_;rintro e w1 ⟨rfl,rfl⟩)|(go_at_call 204;refine(HO.o _).mono ?_;rintro e w1 ⟨rfl,rfl⟩));go_ret;exact⟨cP aak,(cJ _).trans (hb1.mono aj)⟩
   |true=>
    cases y1 with
    |false=>
     go_enter func172,ntmps172;go_wp2_with (first|(go_at_call 202;refine(HQ.o _).mono ?_;rintro e w1 ⟨⟨t,rfl⟩,hb1⟩;obtain⟨hc1,jH⟩:=tC hb1)|(go_at_call 203;refine(HN.o _).mono ?_;rintro e w1 ⟨rfl,rfl⟩)|(go_at_call 204;refine(HO.o _).mono ?_;rintro e w1 ⟨rfl,rfl⟩));go_ret;exact⟨cP aak,(cJ _).trans (hb1.mono aj)⟩
    |true=>
     cases z with
     |false=>
      go_enter func172,ntmps172;go_wp2_with (first|(go_at_call 202;refine(HQ.o _).mono ?_;rintro e w1 ⟨⟨t,rfl⟩,hb1⟩;obtain⟨hc1,jH⟩:=tC hb1)|(go_at_call 203;refine(HN.o _).mono ?_;rintro e w1 ⟨rfl,rfl⟩)|(go_at_call 204;refine(HO.o _).mono ?_;rintro e w1 ⟨rfl,rfl⟩));go_ret;exact⟨cP aak,(cJ _).trans (hb1.mono aj)⟩
     |true=>
      cases b0 with
      |false=>
       go_enter func172,ntmps172;go_wp2_with (first|(go_at_call 202;refine(HQ.o _).mono ?_;rintro e w1 ⟨⟨t,rfl⟩,hb1⟩;obtain⟨hc1,jH⟩:=tC hb1)|(go_at_call 203;refine(HN.o _).mono ?_;rintro e w1 ⟨rfl,rfl⟩)|(go_at_call 204;refine(HO.o _).mono ?_;rintro e w1 ⟨rfl,rfl⟩));go_ret;exact⟨cP aak,(cJ _).trans (hb1.mono aj)⟩
      |true=>
       go_enter func172,ntmps172;go_wp2_with (first|(go_at_call 202;refine(HQ.o _).mono ?_;rintro e w1 ⟨⟨t,rfl⟩,hb1⟩;obtain⟨hc1,jH⟩:=tC hb1)|(go_at_call 203;refine(HN.o _).mono ?_;rintro e w1 ⟨rfl,rfl⟩)|(go_at_call 204;refine(HO.o _).mono ?_;rintro e w1 ⟨rfl,rfl⟩));go_ret;exact⟨cP aak,(cJ _).trans (hb1.mono aj)⟩
 |false=>
  have p0:=aa (show ¬op=0 by simpa using o0);cases m0:(n==0)with
  |false=>
   have m1:(n != 0)=true:=(by simp[bne,m0]);have m2:=aa (show ¬n=0 by simpa using m0);go_enter func172,ntmps172;go_wp2_with (first|(go_at_call 202;refine(HQ.o _).mono ?_;rintro e w1 ⟨⟨t,rfl⟩,hb1⟩;obtain⟨hc1,jH⟩:=tC hb1)|(go_at_call 203;refine(HN.o _).mono ?_;rintro e w1 ⟨rfl,rfl⟩)|(go_at_call 204;refine(HO.o _).mono ?_;rintro e w1 ⟨rfl,rfl⟩));go_ret;exact⟨cP (by rw[HR.o];simp[p0.o,m2.o]),(cJ _)⟩
  |true=>
   have m1:(n != 0)=false:=(by simp[bne,m0]);have m2:=aa (show n=0 by simpa using m0);cases y with
   |false=>
    go_enter func172,ntmps172;go_wp2_with (first|(go_at_call 202;refine(HQ.o _).mono ?_;rintro e w1 ⟨⟨t,rfl⟩,hb1⟩;obtain⟨hc1,jH⟩:=tC hb1)|(go_at_call 203;refine(HN.o _).mono ?_;rintro e w1 ⟨rfl,rfl⟩)|(go_at_call 204;refine(HO.o _).mono ?_;rintro e w1 ⟨rfl,rfl⟩));go_ret;exact⟨cP (by rw[HR.o];simp[p0.o,m2.o]),(cJ _)⟩
   |true=>
    cases o1:(op==1)with
    |true=>
     have p1:=aa (show op=1 by simpa using o1);cases f with
     |false=>
      go_enter func172,ntmps172;go_wp2_with (first|(go_at_call 202;refine(HQ.o _).mono ?_;rintro e w1 ⟨⟨t,rfl⟩,hb1⟩;obtain⟨hc1,jH⟩:=tC hb1)|(go_at_call 203;refine(HN.o _).mono ?_;rintro e w1 ⟨rfl,rfl⟩)|(go_at_call 204;refine(HO.o _).mono ?_;rintro e w1 ⟨rfl,rfl⟩));go_ret;exact⟨cP (by rw[HR.o];simp[m2.o,p1.o]),(cJ _)⟩
     |true=>
      cases b0 with
      |false=>
       go_enter func172,ntmps172;go_wp2_with (first|(go_at_call 202;refine(HQ.o _).mono ?_;rintro e w1 ⟨⟨t,rfl⟩,hb1⟩;obtain⟨hc1,jH⟩:=tC hb1)|(go_at_call 203;refine(HN.o _).mono ?_;rintro e w1 ⟨rfl,rfl⟩)|(go_at_call 204;refine(HO.o _).mono ?_;rintro e w1 ⟨rfl,rfl⟩));go_ret;exact⟨cP (by rw[HR.o];simp[m2.o,p1.o]),(cJ _)⟩
      |true=>
       go_enter func172,ntmps172;go_wp2_with (first|(go_at_call 202;refine(HQ.o _).mono ?_;rintro e w1 ⟨⟨t,rfl⟩,hb1⟩;obtain⟨hc1,jH⟩:=tC hb1)|(go_at_call 203;refine(HN.o _).mono ?_;rintro e w1 ⟨rfl,rfl⟩)|(go_at_call 204;refine(HO.o _).mono ?_;rintro e w1 ⟨rfl,rfl⟩));go_ret;exact⟨cP (by rw[HR.o];simp[m2.o,p1.o]),(cJ _)⟩
    |false=>
     have p1:=aa (show ¬op=1 by simpa using o1);cases o2:(op==2)with
     |true=>
      have p2:=aa (show op=2 by simpa using o2);cases f with
      |false=>
       go_enter func172,ntmps172;go_wp2_with (first|(go_at_call 202;refine(HQ.o _).mono ?_;rintro e w1 ⟨⟨t,rfl⟩,hb1⟩;obtain⟨hc1,jH⟩:=tC hb1)|(go_at_call 203;refine(HN.o _).mono ?_;rintro e w1 ⟨rfl,rfl⟩)|(go_at_call 204;refine(HO.o _).mono ?_;rintro e w1 ⟨rfl,rfl⟩));go_ret;exact⟨cP (by rw[HR.o];simp[m2.o,p2.o]),(cJ _)⟩
      |true=>
       cases b1 with
       |false=>
        go_enter func172,ntmps172;go_wp2_with (first|(go_at_call 202;refine(HQ.o _).mono ?_;rintro e w1 ⟨⟨t,rfl⟩,hb1⟩;obtain⟨hc1,jH⟩:=tC hb1)|(go_at_call 203;refine(HN.o _).mono ?_;rintro e w1 ⟨rfl,rfl⟩)|(go_at_call 204;refine(HO.o _).mono ?_;rintro e w1 ⟨rfl,rfl⟩));go_ret;exact⟨cP (by rw[HR.o];simp[m2.o,p2.o]),(cJ _)⟩
       |true=>
        go_enter func172,ntmps172;go_wp2_with (first|(go_at_call 202;refine(HQ.o _).mono ?_;rintro e w1 ⟨⟨t,rfl⟩,hb1⟩;obtain⟨hc1,jH⟩:=tC hb1)|(go_at_call 203;refine(HN.o _).mono ?_;rintro e w1 ⟨rfl,rfl⟩)|(go_at_call 204;refine(HO.o _).mono ?_;rintro e w1 ⟨rfl,rfl⟩));go_ret;exact⟨cP (by rw[HR.o];simp[m2.o,p2.o]),(cJ _)⟩
     |false=>
      have p2:=aa (show ¬op=2 by simpa using o2);cases o3:(op==3)with
      |true=>
       have p3:=aa (show op=3 by simpa using o3);cases f with
       |false=>
        go_enter func172,ntmps172;go_wp2_with (first|(go_at_call 202;refine(HQ.o _).mono ?_;rintro e w1 ⟨⟨t,rfl⟩,hb1⟩;obtain⟨hc1,jH⟩:=tC hb1)|(go_at_call 203;refine(HN.o _).mono ?_;rintro e w1 ⟨rfl,rfl⟩)|(go_at_call 204;refine(HO.o _).mono ?_;rintro e w1 ⟨rfl,rfl⟩));go_ret;exact⟨cP (by rw[HR.o];simp[m2.o,p3.o]),(cJ _)⟩
       |true=>
        cases c1 with
        |false=>
         go_enter func172,ntmps172;go_wp2_with (first|(go_at_call 202;refine(HQ.o _).mono ?_;rintro e w1 ⟨⟨t,rfl⟩,hb1⟩;obtain⟨hc1,jH⟩:=tC hb1)|(go_at_call 203;refine(HN.o _).mono ?_;rintro e w1 ⟨rfl,rfl⟩)|(go_at_call 204;refine(HO.o _).mono ?_;rintro e w1 ⟨rfl,rfl⟩));go_ret;exact⟨cP (by rw[HR.o];simp[m2.o,p3.o]),(cJ _)⟩
        |true=>
         cases c6 with
         |false=>
          go_enter func172,ntmps172;go_wp2_with (first|(go_at_call 202;refine(HQ.o _).mono ?_;rintro e w1 ⟨⟨t,rfl⟩,hb1⟩;obtain⟨hc1,jH⟩:=tC hb1)|(go_at_call 203;refine(HN.o _).mono ?_;rintro e w1 ⟨rfl,rfl⟩)|(go_at_call 204;refine(HO.o _).mono ?_;rintro e w1 ⟨rfl,rfl⟩));go_ret;exact⟨cP (by rw[HR.o];simp[m2.o,p3.o]),(cJ _)⟩
         |true=>
          go_enter func172,ntmps172;go_wp2_with (first|(go_at_call 202;refine(HQ.o _).mono ?_;rintro e w1 ⟨⟨t,rfl⟩,hb1⟩;obtain⟨hc1,jH⟩:=tC hb1)|(go_at_call 203;refine(HN.o _).mono ?_;rintro e w1 ⟨rfl,rfl⟩)|(go_at_call 204;refine(HO.o _).mono ?_;rintro e w1 ⟨rfl,rfl⟩));go_ret;exact⟨cP (by rw[HR.o];simp[m2.o,p3.o]),(cJ _)⟩
      |false=>
       have p3:=aa (show ¬op=3 by simpa using o3);cases o4:(op==4)with
       |true=>
        have p4:=aa (show op=4 by simpa using o4);cases z with
        |false=>
         go_enter func172,ntmps172;go_wp2_with (first|(go_at_call 202;refine(HQ.o _).mono ?_;rintro e w1 ⟨⟨t,rfl⟩,hb1⟩;obtain⟨hc1,jH⟩:=tC hb1)|(go_at_call 203;refine(HN.o _).mono ?_;rintro e w1 ⟨rfl,rfl⟩)|(go_at_call 204;refine(HO.o _).mono ?_;rintro e w1 ⟨rfl,rfl⟩));go_ret;exact⟨cP (by rw[HR.o];simp[m2.o,p4.o]),(cJ _)⟩
        |true=>
         cases b1 with
         |false=>
          go_enter func172,ntmps172;go_wp2_with (first|(go_at_call 202;refine(HQ.o _).mono ?_;rintro e w1 ⟨⟨t,rfl⟩,hb1⟩;obtain⟨hc1,jH⟩:=tC hb1)|(go_at_call 203;refine(HN.o _).mono ?_;rintro e w1 ⟨rfl,rfl⟩)|(go_at_call 204;refine(HO.o _).mono ?_;rintro e w1 ⟨rfl,rfl⟩));go_ret;exact⟨cP (by rw[HR.o];simp[m2.o,p4.o]),(cJ _)⟩
         |true=>
          go_enter func172,ntmps172;go_wp2_with (first|(go_at_call 202;refine(HQ.o _).mono ?_;rintro e w1 ⟨⟨t,rfl⟩,hb1⟩;obtain⟨hc1,jH⟩:=tC hb1)|(go_at_call 203;refine(HN.o _).mono ?_;rintro e w1 ⟨rfl,rfl⟩)|(go_at_call 204;refine(HO.o _).mono ?_;rintro e w1 ⟨rfl,rfl⟩));go_ret;exact⟨cP (by rw[HR.o];simp[m2.o,p4.o]),(cJ _)⟩
       |false=>
        have p4:=aa (show ¬op=4 by simpa using o4);cases o5:(op==5)with
        |true=>
         have p5:=aa (show op=5 by simpa using o5);cases z with
         |false=>
          go_enter func172,ntmps172;go_wp2_with (first|(go_at_call 202;refine(HQ.o _).mono ?_;rintro e w1 ⟨⟨t,rfl⟩,hb1⟩;obtain⟨hc1,jH⟩:=tC hb1)|(go_at_call 203;refine(HN.o _).mono ?_;rintro e w1 ⟨rfl,rfl⟩)|(go_at_call 204;refine(HO.o _).mono ?_;rintro e w1 ⟨rfl,rfl⟩));go_ret;exact⟨cP (by rw[HR.o];simp[m2.o,p5.o]),(cJ _)⟩
         |true=>
          cases b3 with
          |false=>
           go_enter func172,ntmps172;go_wp2_with (first|(go_at_call 202;refine(HQ.o _).mono ?_;rintro e w1 ⟨⟨t,rfl⟩,hb1⟩;obtain⟨hc1,jH⟩:=tC hb1)|(go_at_call 203;refine(HN.o _).mono ?_;rintro e w1 ⟨rfl,rfl⟩)|(go_at_call 204;refine(HO.o _).mono ?_;rintro e w1 ⟨rfl,rfl⟩));go_ret;exact⟨cP (by rw[HR.o];simp[m2.o,p5.o]),(cJ _)⟩
          |true=>
           go_enter func172,ntmps172;go_wp2_with (first|(go_at_call 202;refine(HQ.o _).mono ?_;rintro e w1 ⟨⟨t,rfl⟩,hb1⟩;obtain⟨hc1,jH⟩:=tC hb1)|(go_at_call 203;refine(HN.o _).mono ?_;rintro e w1 ⟨rfl,rfl⟩)|(go_at_call 204;refine(HO.o _).mono ?_;rintro e w1 ⟨rfl,rfl⟩));go_ret;exact⟨cP (by rw[HR.o];simp[m2.o,p5.o]),(cJ _)⟩
        |false=>
         have p5:=aa (show ¬op=5 by simpa using o5);cases o10:(op==10)with
         |true=>
          have p10:=aa (show op=10 by simpa using o10);cases z with
          |false=>
           go_enter func172,ntmps172;go_wp2_with (first|(go_at_call 202;refine(HQ.o _).mono ?_;rintro e w1 ⟨⟨t,rfl⟩,hb1⟩;obtain⟨hc1,jH⟩:=tC hb1)|(go_at_call 203;refine(HN.o _).mono ?_;rintro e w1 ⟨rfl,rfl⟩)|(go_at_call 204;refine(HO.o _).mono ?_;rintro e w1 ⟨rfl,rfl⟩));go_ret;exact⟨cP (by rw[HR.o];simp[m2.o,p10.o]),(cJ _)⟩
          |true=>
           cases b2 with
           |false=>
            go_enter func172,ntmps172;go_wp2_with (first|(go_at_call 202;refine(HQ.o _).mono ?_;rintro e w1 ⟨⟨t,rfl⟩,hb1⟩;obtain⟨hc1,jH⟩:=tC hb1)|(go_at_call 203;refine(HN.o _).mono ?_;rintro e w1 ⟨rfl,rfl⟩)|(go_at_call 204;refine(HO.o _).mono ?_;rintro e w1 ⟨rfl,rfl⟩));go_ret;exact⟨cP (by rw[HR.o];simp[m2.o,p10.o]),(cJ _)⟩
           |true=>
            go_enter func172,ntmps172;go_wp2_with (first|(go_at_call 202;refine(HQ.o _).mono ?_;rintro e w1 ⟨⟨t,rfl⟩,hb1⟩;obtain⟨hc1,jH⟩:=tC hb1)|(go_at_call 203;refine(HN.o _).mono ?_;rintro e w1 ⟨rfl,rfl⟩)|(go_at_call 204;refine(HO.o _).mono ?_;rintro e w1 ⟨rfl,rfl⟩));go_ret;exact⟨cP (by rw[HR.o];simp[m2.o,p10.o]),(cJ _)⟩
         |false=>
          have p10:=aa (show ¬op=10 by simpa using o10);cases o11:(op==11)with
          |true=>
           have p11:=aa (show op=11 by simpa using o11);cases z with
           |false=>
            go_enter func172,ntmps172;go_wp2_with (first|(go_at_call 202;refine(HQ.o _).mono ?_;rintro e w1 ⟨⟨t,rfl⟩,hb1⟩;obtain⟨hc1,jH⟩:=tC hb1)|(go_at_call 203;refine(HN.o _).mono ?_;rintro e w1 ⟨rfl,rfl⟩)|(go_at_call 204;refine(HO.o _).mono ?_;rintro e w1 ⟨rfl,rfl⟩));go_ret;exact⟨cP (by rw[HR.o];simp[m2.o,p11.o]),(cJ _)⟩
           |true=>
            cases b2 with
            |false=>
             go_enter func172,ntmps172;go_wp2_with (first|(go_at_call 202;refine(HQ.o _).mono ?_;rintro e w1 ⟨⟨t,rfl⟩,hb1⟩;obtain⟨hc1,jH⟩:=tC hb1)|(go_at_call 203;refine(HN.o _).mono ?_;rintro e w1 ⟨rfl,rfl⟩)|(go_at_call 204;refine(HO.o _).mono ?_;rintro e w1 ⟨rfl,rfl⟩));go_ret;exact⟨cP (by rw[HR.o];simp[m2.o,p11.o]),(cJ _)⟩
            |true=>
             go_enter func172,ntmps172;go_wp2_with (first|(go_at_call 202;refine(HQ.o _).mono ?_;rintro e w1 ⟨⟨t,rfl⟩,hb1⟩;obtain⟨hc1,jH⟩:=tC hb1)|(go_at_call 203;refine(HN.o _).mono ?_;rintro e w1 ⟨rfl,rfl⟩)|(go_at_call 204;refine(HO.o _).mono ?_;rintro e w1 ⟨rfl,rfl⟩));go_ret;exact⟨cP (by rw[HR.o];simp[m2.o,p11.o]),(cJ _)⟩
          |false=>
           have p11:=aa (show ¬op=11 by simpa using o11);cases ob with
           |false=>
            go_enter func172,ntmps172;go_wp2_with (first|(go_at_call 202;refine(HQ.o _).mono ?_;rintro e w1 ⟨⟨t,rfl⟩,hb1⟩;obtain⟨hc1,jH⟩:=tC hb1)|(go_at_call 203;refine(HN.o _).mono ?_;rintro e w1 ⟨rfl,rfl⟩)|(go_at_call 204;refine(HO.o _).mono ?_;rintro e w1 ⟨rfl,rfl⟩));go_ret;exact⟨cP aV,(cJ _)⟩
           |true=>
            cases z with
            |false=>
             go_enter func172,ntmps172;go_wp2_with (first|(go_at_call 202;refine(HQ.o _).mono ?_;rintro e w1 ⟨⟨t,rfl⟩,hb1⟩;obtain⟨hc1,jH⟩:=tC hb1)|(go_at_call 203;refine(HN.o _).mono ?_;rintro e w1 ⟨rfl,rfl⟩)|(go_at_call 204;refine(HO.o _).mono ?_;rintro e w1 ⟨rfl,rfl⟩));go_ret;exact⟨cP aV,(cJ _)⟩
            |true=>
             cases b2 with
             |false=>
              go_enter func172,ntmps172;go_wp2_with (first|(go_at_call 202;refine(HQ.o _).mono ?_;rintro e w1 ⟨⟨t,rfl⟩,hb1⟩;obtain⟨hc1,jH⟩:=tC hb1)|(go_at_call 203;refine(HN.o _).mono ?_;rintro e w1 ⟨rfl,rfl⟩)|(go_at_call 204;refine(HO.o _).mono ?_;rintro e w1 ⟨rfl,rfl⟩));go_ret;exact⟨cP aV,(cJ _)⟩
             |true=>
              go_enter func172,ntmps172;go_wp2_with (first|(go_at_call 202;refine(HQ.o _).mono ?_;rintro e w1 ⟨⟨t,rfl⟩,hb1⟩;obtain⟨hc1,jH⟩:=tC hb1)|(go_at_call 203;refine(HN.o _).mono ?_;rintro e w1 ⟨rfl,rfl⟩)|(go_at_call 204;refine(HO.o _).mono ?_;rintro e w1 ⟨rfl,rfl⟩));go_ret;exact⟨cP aV,(cJ _)⟩
end Go.Proofs.YtkfofnjfihfgkaaGreatDoor
namespace Go.Proofs
open Go.Shelf
def EA:Go.Shelf.Ren:=⟨fun|8=>104|6=>157|n=>n,fun|22=>63|23=>9|25=>45|4=>4|3=>3|0=>0|n=>n,fun|n=>n⟩
theorem Fl:Go.Proofs.SlLaysH.n8 prog EA:={
 mixed:=by kernel_rfl
 f6:=⟨Tryz.f157.name,by decide,Tryz.func157.trans (congrArg some ai)⟩
 f8:=⟨Tryz.f104.name,by decide,Tryz.func104.trans (congrArg some ai)⟩
 t0:=Tryz.underlying0
 a0:=Tryz.isAgg0
 z0:=Tryz.sizeOf0
 v0:=Tryz.zeroValue0
 t3:=Tryz.underlying3
 a3:=Tryz.isAgg3
 z3:=Tryz.sizeOf3
 v3:=Tryz.zeroValue3
 t4:=Tryz.underlying4
 a4:=Tryz.isAgg4
 z4:=Tryz.sizeOf4
 v4:=Tryz.zeroValue4
 t22:=Tryz.underlying63
 a22:=Tryz.isAgg63
 z22:=Tryz.sizeOf63
 v22:=Tryz.zeroValue63
 a23:=Tryz.isAgg9
 z23:=Tryz.sizeOf9
 t25:=Tryz.underlying45
 a25:=Tryz.isAgg45
 z25:=Tryz.sizeOf45
 v25:=Tryz.zeroValue45}
def wM:Go.Shelf.Ren:=⟨fun|6=>39|n=>n,fun|22=>29|23=>62|25=>84|3=>3|0=>0|4=>4|n=>n,fun|n=>n⟩
theorem EB:Go.Proofs.SlLaysH0.n6 prog wM:={
 mixed:=by kernel_rfl
 f6:=⟨Tryz.f39.name,by decide,Tryz.func39.trans (congrArg some ai)⟩
 t0:=Tryz.underlying0
 a0:=Tryz.isAgg0
 z0:=Tryz.sizeOf0
 v0:=Tryz.zeroValue0
 t3:=Tryz.underlying3
 a3:=Tryz.isAgg3
 z3:=Tryz.sizeOf3
 v3:=Tryz.zeroValue3
 t4:=Tryz.underlying4
 a4:=Tryz.isAgg4
 z4:=Tryz.sizeOf4
 v4:=Tryz.zeroValue4
 t22:=Tryz.underlying29
 a22:=Tryz.isAgg29
 z22:=Tryz.sizeOf29
 v22:=Tryz.zeroValue29
 t25:=Tryz.underlying84
 a25:=Tryz.isAgg84
 z25:=Tryz.sizeOf84
 v25:=Tryz.zeroValue84}
def AQ:Go.Shelf.Ren:=⟨fun|6=>48|n=>n,fun|22=>26|23=>56|25=>101|3=>3|0=>0|4=>4|n=>n,fun|n=>n⟩
theorem Jv:Go.Proofs.SlLaysH0.n6 prog AQ:={
 mixed:=by kernel_rfl
 f6:=⟨Tryz.f48.name,by decide,Tryz.func48.trans (congrArg some ai)⟩
 t0:=Tryz.underlying0
 a0:=Tryz.isAgg0
 z0:=Tryz.sizeOf0
 v0:=Tryz.zeroValue0
 t3:=Tryz.underlying3
 a3:=Tryz.isAgg3
 z3:=Tryz.sizeOf3
 v3:=Tryz.zeroValue3
 t4:=Tryz.underlying4
 a4:=Tryz.isAgg4
 z4:=Tryz.sizeOf4
 v4:=Tryz.zeroValue4
 t22:=Tryz.underlying26
 a22:=Tryz.isAgg26
 z22:=Tryz.sizeOf26
 v22:=Tryz.zeroValue26
 t25:=Tryz.underlying101
 a25:=Tryz.isAgg101
 z25:=Tryz.sizeOf101
 v25:=Tryz.zeroValue101}
def yx:Go.Shelf.Ren:=⟨fun|8=>62|6=>133|n=>n,fun|22=>60|23=>65|25=>115|4=>4|3=>3|0=>0|n=>n,fun|n=>n⟩
theorem GF:Go.Proofs.SlLaysH0.n8 prog yx:={
 mixed:=by kernel_rfl
 f6:=⟨Tryz.f133.name,by decide,Tryz.func133.trans (congrArg some ai)⟩
 f8:=⟨Tryz.f62.name,by decide,Tryz.func62.trans (congrArg some ai)⟩
 t0:=Tryz.underlying0
 a0:=Tryz.isAgg0
 z0:=Tryz.sizeOf0
 v0:=Tryz.zeroValue0
 t3:=Tryz.underlying3
 a3:=Tryz.isAgg3
 z3:=Tryz.sizeOf3
 v3:=Tryz.zeroValue3
 t4:=Tryz.underlying4
 a4:=Tryz.isAgg4
 z4:=Tryz.sizeOf4
 v4:=Tryz.zeroValue4
 t22:=Tryz.underlying60
 a22:=Tryz.isAgg60
 z22:=Tryz.sizeOf60
 v22:=Tryz.zeroValue60
 t25:=Tryz.underlying115
 a25:=Tryz.isAgg115
 z25:=Tryz.sizeOf115
 v25:=Tryz.zeroValue115}
def yz:Go.Shelf.Ren:=⟨fun|8=>107|6=>159|n=>n,fun|22=>25|23=>76|25=>169|4=>4|3=>3|0=>0|n=>n,fun|n=>n⟩
theorem GG:Go.Proofs.SlLaysH0.n8 prog yz:={
 mixed:=by kernel_rfl
 f6:=⟨Tryz.f159.name,by decide,Tryz.func159.trans (congrArg some ai)⟩
 f8:=⟨Tryz.f107.name,by decide,Tryz.func107.trans (congrArg some ai)⟩
 t0:=Tryz.underlying0
 a0:=Tryz.isAgg0
 z0:=Tryz.sizeOf0
 v0:=Tryz.zeroValue0
 t3:=Tryz.underlying3
 a3:=Tryz.isAgg3
 z3:=Tryz.sizeOf3
 v3:=Tryz.zeroValue3
 t4:=Tryz.underlying4
 a4:=Tryz.isAgg4
 z4:=Tryz.sizeOf4
 v4:=Tryz.zeroValue4
 t22:=Tryz.underlying25
 a22:=Tryz.isAgg25
 z22:=Tryz.sizeOf25
 v22:=Tryz.zeroValue25
 t25:=Tryz.underlying169
 a25:=Tryz.isAgg169
 z25:=Tryz.sizeOf169
 v25:=Tryz.zeroValue169}
def wN:Go.Shelf.Ren:=⟨fun|8=>109|6=>160|n=>n,fun|22=>74|23=>78|25=>168|4=>4|3=>3|0=>0|n=>n,fun|n=>n⟩
theorem EC:Go.Proofs.SlLaysH0.n8 prog wN:={
 mixed:=by kernel_rfl
 f6:=⟨Tryz.f160.name,by decide,Tryz.func160.trans (congrArg some ai)⟩
 f8:=⟨Tryz.f109.name,by decide,Tryz.func109.trans (congrArg some ai)⟩
 t0:=Tryz.underlying0
 a0:=Tryz.isAgg0
 z0:=Tryz.sizeOf0
 v0:=Tryz.zeroValue0
 t3:=Tryz.underlying3
 a3:=Tryz.isAgg3
 z3:=Tryz.sizeOf3
 v3:=Tryz.zeroValue3
 t4:=Tryz.underlying4
 a4:=Tryz.isAgg4
 z4:=Tryz.sizeOf4
 v4:=Tryz.zeroValue4
 t22:=Tryz.underlying74
 a22:=Tryz.isAgg74
 z22:=Tryz.sizeOf74
 v22:=Tryz.zeroValue74
 t25:=Tryz.underlying168
 a25:=Tryz.isAgg168
 z25:=Tryz.sizeOf168
 v25:=Tryz.zeroValue168}
def wO:Go.Shelf.Ren:=⟨fun|8=>111|6=>161|n=>n,fun|22=>24|23=>106|25=>167|4=>4|3=>3|0=>0|n=>n,fun|n=>n⟩
theorem ED:Go.Proofs.SlLaysH0.n8 prog wO:={
 mixed:=by kernel_rfl
 f6:=⟨Tryz.f161.name,by decide,Tryz.func161.trans (congrArg some ai)⟩
 f8:=⟨Tryz.f111.name,by decide,Tryz.func111.trans (congrArg some ai)⟩
 t0:=Tryz.underlying0
 a0:=Tryz.isAgg0
 z0:=Tryz.sizeOf0
 v0:=Tryz.zeroValue0
 t3:=Tryz.underlying3
 a3:=Tryz.isAgg3
 z3:=Tryz.sizeOf3
 v3:=Tryz.zeroValue3
 t4:=Tryz.underlying4
 a4:=Tryz.isAgg4
 z4:=Tryz.sizeOf4
 v4:=Tryz.zeroValue4
 t22:=Tryz.underlying24
 a22:=Tryz.isAgg24
 z22:=Tryz.sizeOf24
 v22:=Tryz.zeroValue24
 t25:=Tryz.underlying167
 a25:=Tryz.isAgg167
 z25:=Tryz.sizeOf167
 v25:=Tryz.zeroValue167}
def yA:Go.Shelf.Ren:=⟨fun|8=>173|6=>205|n=>n,fun|22=>52|23=>54|25=>98|4=>4|3=>3|0=>0|n=>n,fun|n=>n⟩
theorem GH:Go.Proofs.SlLaysH0.n8 prog yA:={
 mixed:=by kernel_rfl
 f6:=⟨Tryz.f205.name,by decide,Tryz.func205.trans (congrArg some ai)⟩
 f8:=⟨Tryz.f173.name,by decide,Tryz.func173.trans (congrArg some ai)⟩
 t0:=Tryz.underlying0
 a0:=Tryz.isAgg0
 z0:=Tryz.sizeOf0
 v0:=Tryz.zeroValue0
 t3:=Tryz.underlying3
 a3:=Tryz.isAgg3
 z3:=Tryz.sizeOf3
 v3:=Tryz.zeroValue3
 t4:=Tryz.underlying4
 a4:=Tryz.isAgg4
 z4:=Tryz.sizeOf4
 v4:=Tryz.zeroValue4
 t22:=Tryz.underlying52
 a22:=Tryz.isAgg52
 z22:=Tryz.sizeOf52
 v22:=Tryz.zeroValue52
 t25:=Tryz.underlying98
 a25:=Tryz.isAgg98
 z25:=Tryz.sizeOf98
 v25:=Tryz.zeroValue98}
end Go.Proofs
