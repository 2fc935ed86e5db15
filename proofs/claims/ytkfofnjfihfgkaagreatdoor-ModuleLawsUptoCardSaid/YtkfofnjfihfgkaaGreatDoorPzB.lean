/- What a bound of a sheet's bulk says. -/
import Derived.Test.YtkfofnjfihfgkaaGreatDoorPz05
namespace Go.Proofs.YtkfofnjfihfgkaaGreatDoor
open Go Go.RowKit Go.Proofs Sh Kb
theorem mem_sum {α:Type} {f:α→Nat}:∀ {l:List α} {x:α},x∈l→f x≤(l.map f).sum
 |y :: l,x,h=>by
  simp only[List.map_cons,List.sum_cons];rcases List.mem_cons.1 h with rfl|h
  (·omega);have:=mem_sum (f:=f) h;omega
theorem len_sum {α:Type} {f:α→Nat} (h1:∀ x,1≤f x):∀ l:List α,l.length≤(l.map f).sum
 |[]=>by simp
 |x :: l=>by
  have:=len_sum h1 l;have:=h1 x;simp only[List.map_cons,List.sum_cons,List.length_cons];omega
mutual
theorem smE_of:∀ x:cD,mE x≤maxLen→GJ x
 | .mk _ _ u n l,h=>by
  simp only[mE]at h;exact⟨by unfold Ms;omega,by unfold Ms;omega,smL_of l (by omega)⟩
theorem smL_of:∀ l:List cD,mEL l≤maxLen→Zw l
 |[],_=>trivial
 |x :: l,h=>by
  simp only[mEL]at h;exact⟨smE_of x (by omega),smL_of l (by omega)⟩
end
mutual
theorem nodes_mE:∀ x:cD,6*cU x≤mE x
 | .mk _ _ u n l=>by
  have:=nodes_mEL l;simp only[mE,cU];omega
theorem nodes_mEL:∀ l:List cD,6*eC l≤mEL l
 |[]=>by simp[mEL,eC]
 |x :: l=>by
  have:=nodes_mE x;have:=nodes_mEL l;simp only[mEL,eC];omega
end
theorem sm_cell {x:cL} (h:JA x≤1048576):vt x:=by
 unfold JA at h;(have:1048576≤maxLen:=by decide);exact⟨by unfold Ms;omega,by unfold Ms;omega,smE_of _ (by omega)⟩
theorem strs_of {l:List ByteArray} (h:(l.map mB).sum≤1048576):(∀ s∈l,Ms s)∧l.length≤maxLen:=by
 (have hm:1048576≤maxLen:=by decide);refine⟨fun s hs=>?_,?_⟩
 (·have:=mem_sum (f:=mB) hs;unfold mB at this h;unfold Ms;omega);have:=len_sum (f:=mB) (fun x=>by unfold mB;omega) l;omega
theorem lit_of {s:bY} (h:UO s≤1048576):Lit s:=by
 (have hm:1048576≤maxLen:=by decide);unfold UO at h;have i1:=len_sum (f:=wW) (fun x=>by unfold wW;omega) s.imports;have i2:=len_sum (f:=Cq) (fun x=>by unfold Cq;omega) s.inputs;have i3:=len_sum (f:=Cr) (fun x=>by unfold Cr;omega) s.tables;have i4:=len_sum (f:=Jz) (fun x=>by unfold Jz;omega) s.funcs;have i5:=len_sum (f:=JA) (fun x=>by unfold JA;omega) s.cells;have i6:=len_sum (f:=JB) (fun x=>by unfold JB;omega) s.b9;have i7:=len_sum (f:=Ct) (fun x=>by unfold Ct;omega) s.stores;have i8:=len_sum (f:=wX) (fun x=>by unfold wX;omega) s.bX;have hF:∀ f∈s.funcs,f.name.size+(f.params.map Cs).sum+mE f.body+1≤1048576:=fun f hf=>by
  have:=mem_sum (f:=Jz) hf;unfold Jz at this h;omega
 have hP:∀ f∈s.funcs,f.params.length≤1048576∧∀ p∈f.params,p.name.size+p.unit.size+1≤1048576:=fun f hf=>by
  have h0:=hF f hf;have h1:=len_sum (f:=Cs) (fun x=>by unfold Cs;omega) f.params;refine⟨by omega,fun p hp=>?_⟩;have:=mem_sum (f:=Cs) hp;unfold Cs at this h0;omega
 have hT:∀ t∈s.tables,t.name.size+t.unit.size+t.rows.length+1≤1048576:=fun t ht=>by
  have:=mem_sum (f:=Cr) ht;have h1:=len_sum (f:=UN) (fun x=>Nat.le_refl _) t.rows;unfold Cr at this h;omega
 have hR:∀ r∈s.bX,r.kind.size+(r.steps.map JC).sum+1≤1048576:=fun r hr=>by
  have:=mem_sum (f:=wX) hr;unfold wX at this h;omega
 have hS:∀ r∈s.bX,r.steps.length≤1048576∧∀ y∈r.steps,(y.inp.map mB).sum+(y.o.map mB).sum+y.name.size+(y.cells.map mB).sum+1≤1048576:=fun r hr=>by
  have h0:=hR r hr;have h1:=len_sum (f:=JC) (fun x=>by unfold JC;omega) r.steps;refine⟨by omega,fun y hy=>?_⟩;have:=mem_sum (f:=JC) hy;unfold JC at this h0;omega
 have hC:∀ c∈s.cells,JA c≤1048576:=fun c hc=>by
  have:=mem_sum (f:=JA) hc;omega
 have hu:(uses s).length≤1048576:=by
  simp only[uses,ei,eE,List.length_append,List.length_map];omega
 refine⟨⟨by unfold Ms;omega,fun x hx=>?_,fun x hx=>?_,fun x hx=>?_,fun x hx=>?_,fun x hx=>sm_cell (hC x hx),fun x hx=>?_,fun x hx=>?_,fun x hx=>?_,by omega⟩,by omega,by simp only[bZ,List.length_append,List.length_map];omega,by omega,by omega,by omega,by omega,fun t ht=>?_,fun r hr=>?_,fun f hf=>?_,fun c hc=>?_⟩
 (·have:=mem_sum (f:=wW) hx;unfold wW at this h;exact⟨by unfold Ms;omega,by unfold Ms;omega,by unfold Ms;omega⟩)
 (·have:=mem_sum (f:=Cq) hx;unfold Cq at this h;exact⟨by unfold Ms;omega,by unfold Ms;omega,by unfold Ms;omega⟩)
 (·have:=hT x hx;exact⟨by unfold Ms;omega,by unfold Ms;omega,by omega⟩)
 (·have h0:=hF x hx;have h1:=hP x hx;refine⟨by unfold Ms;omega,by omega,fun p hp=>?_,smE_of _ (by omega)⟩;have:=h1.2 p hp;exact⟨by unfold Ms;omega,by unfold Ms;omega⟩)
 (·have:=mem_sum (f:=JB) hx;unfold JB at this h;exact⟨by unfold Ms;omega,by unfold Ms;omega⟩)
 (·have:=mem_sum (f:=Ct) hx;unfold Ct at this h;exact⟨by unfold Ms;omega,by unfold Ms;omega⟩)
 (·have h0:=hR x hx;have h1:=hS x hx;refine⟨by unfold Ms;omega,by omega,fun y hy=>?_⟩;have:=h1.2 y hy;exact⟨strs_of (by omega),strs_of (by omega),by unfold Ms;omega,strs_of (by omega)⟩)
 (·have:=hT t ht;omega)
 (·have h1:=hS r hr;refine⟨by omega,fun y hy=>?_⟩;have:=h1.2 y hy;have a1:=len_sum (f:=mB) (fun x=>by unfold mB;omega) y.inp;have a2:=len_sum (f:=mB) (fun x=>by unfold mB;omega) y.o;have a3:=len_sum (f:=mB) (fun x=>by unfold mB;omega) y.cells;omega)
 (·have h0:=hF f hf;have h1:=hP f hf;have:=nodes_mE f.body;omega);have h0:=hC c hc;have:=nodes_mE c.iY;unfold JA at h0;omega
end Go.Proofs.YtkfofnjfihfgkaaGreatDoor
