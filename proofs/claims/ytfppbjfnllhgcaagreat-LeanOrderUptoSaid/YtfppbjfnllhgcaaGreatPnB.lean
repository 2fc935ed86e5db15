/- What a bound of a sheet's bulk says. -/
import Derived.Test.YtfppbjfnllhgcaaGreatPn14
namespace Go.Proofs.YtfppbjfnllhgcaaGreat
open Go Go.RowKit Go.Proofs Sh Kb
theorem mem_sum {α:Type} {f:α→Nat}:∀ {l:List α} {x:α},x∈l→f x≤(l.map f).sum
 |y :: l,x,h=>by
  simp only[List.map_cons,List.sum_cons];rcases List.mem_cons.1 h with rfl|h
  (·omega);have:=mem_sum (f:=f) h;omega
theorem len_sum {α:Type} {f:α→Nat} (h1:∀ x,1≤f x):∀ l:List α,l.length≤(l.map f).sum
 |[]=>by simp
 |x :: l=>by
  have:=len_sum h1 l;have:=h1 x;simp only[List.map_cons,List.sum_cons,List.length_cons];omega
mutual
theorem smE_of:∀ x:cw,mE x≤maxLen→lV x
 | .mk _ _ u n l,h=>by
  simp only[mE]at h;exact⟨by unfold Ms;omega,by unfold Ms;omega,smL_of l (by omega)⟩
theorem smL_of:∀ l:List cw,mEL l≤maxLen→Vd l
 |[],_=>trivial
 |x :: l,h=>by
  simp only[mEL]at h;exact⟨smE_of x (by omega),smL_of l (by omega)⟩
end
mutual
theorem nodes_mE:∀ x:cw,6*cE x≤mE x
 | .mk _ _ u n l=>by
  have:=nodes_mEL l;simp only[mE,cE];omega
theorem nodes_mEL:∀ l:List cw,6*cR l≤mEL l
 |[]=>by simp[mEL,cR]
 |x :: l=>by
  have:=nodes_mE x;have:=nodes_mEL l;simp only[mEL,cR];omega
end
theorem sm_cell {x:fH} (h:Ii x≤1048576):Y1 x:=by
 unfold Ii at h;(have:1048576≤maxLen:=by decide);exact⟨by unfold Ms;omega,by unfold Ms;omega,smE_of _ (by omega)⟩
theorem strs_of {l:List ByteArray} (h:(l.map mB).sum≤1048576):(∀ s∈l,Ms s)∧l.length≤maxLen:=by
 (have hm:1048576≤maxLen:=by decide);refine⟨fun s hs=>?_,?_⟩
 (·have:=mem_sum (f:=mB) hs;unfold mB at this h;unfold Ms;omega);have:=len_sum (f:=mB) (fun x=>by unfold mB;omega) l;omega
theorem lit_of {s:cL} (h:RJ s≤1048576):Lit s:=by
 (have hm:1048576≤maxLen:=by decide);unfold RJ at h;have i1:=len_sum (f:=vY) (fun x=>by unfold vY;omega) s.imports;have i2:=len_sum (f:=BP) (fun x=>by unfold BP;omega) s.inputs;have i3:=len_sum (f:=BQ) (fun x=>by unfold BQ;omega) s.tables;have i4:=len_sum (f:=Ih) (fun x=>by unfold Ih;omega) s.funcs;have i5:=len_sum (f:=Ii) (fun x=>by unfold Ii;omega) s.cells;have i6:=len_sum (f:=Ij) (fun x=>by unfold Ij;omega) s.dZ;have i7:=len_sum (f:=BS) (fun x=>by unfold BS;omega) s.stores;have i8:=len_sum (f:=vZ) (fun x=>by unfold vZ;omega) s.cI;have hF:∀ f∈s.funcs,f.name.size+(f.params.map BR).sum+mE f.body+1≤1048576:=fun f hf=>by
  have:=mem_sum (f:=Ih) hf;unfold Ih at this h;omega
 have hP:∀ f∈s.funcs,f.params.length≤1048576∧∀ p∈f.params,p.name.size+p.unit.size+1≤1048576:=fun f hf=>by
  have h0:=hF f hf;have h1:=len_sum (f:=BR) (fun x=>by unfold BR;omega) f.params;refine⟨by omega,fun p hp=>?_⟩;have:=mem_sum (f:=BR) hp;unfold BR at this h0;omega
 have hT:∀ t∈s.tables,t.name.size+t.unit.size+t.rows.length+1≤1048576:=fun t ht=>by
  have:=mem_sum (f:=BQ) ht;have h1:=len_sum (f:=RI) (fun x=>Nat.le_refl _) t.rows;unfold BQ at this h;omega
 have hR:∀ r∈s.cI,r.kind.size+(r.steps.map Ik).sum+1≤1048576:=fun r hr=>by
  have:=mem_sum (f:=vZ) hr;unfold vZ at this h;omega
 have hS:∀ r∈s.cI,r.steps.length≤1048576∧∀ y∈r.steps,(y.inp.map mB).sum+(y.o.map mB).sum+y.name.size+(y.cells.map mB).sum+1≤1048576:=fun r hr=>by
  have h0:=hR r hr;have h1:=len_sum (f:=Ik) (fun x=>by unfold Ik;omega) r.steps;refine⟨by omega,fun y hy=>?_⟩;have:=mem_sum (f:=Ik) hy;unfold Ik at this h0;omega
 have hC:∀ c∈s.cells,Ii c≤1048576:=fun c hc=>by
  have:=mem_sum (f:=Ii) hc;omega
 have hu:(uses s).length≤1048576:=by
  simp only[uses,gP,iC,List.length_append,List.length_map];omega
 refine⟨⟨by unfold Ms;omega,fun x hx=>?_,fun x hx=>?_,fun x hx=>?_,fun x hx=>?_,fun x hx=>sm_cell (hC x hx),fun x hx=>?_,fun x hx=>?_,fun x hx=>?_,by omega⟩,by omega,by simp only[xR,List.length_append,List.length_map];omega,by omega,by omega,by omega,by omega,fun t ht=>?_,fun r hr=>?_,fun f hf=>?_,fun c hc=>?_⟩
 (·have:=mem_sum (f:=vY) hx;unfold vY at this h;exact⟨by unfold Ms;omega,by unfold Ms;omega,by unfold Ms;omega⟩)
 (·have:=mem_sum (f:=BP) hx;unfold BP at this h;exact⟨by unfold Ms;omega,by unfold Ms;omega,by unfold Ms;omega⟩)
 (·have:=hT x hx;exact⟨by unfold Ms;omega,by unfold Ms;omega,by omega⟩)
 (·have h0:=hF x hx;have h1:=hP x hx;refine⟨by unfold Ms;omega,by omega,fun p hp=>?_,smE_of _ (by omega)⟩;have:=h1.2 p hp;exact⟨by unfold Ms;omega,by unfold Ms;omega⟩)
 (·have:=mem_sum (f:=Ij) hx;unfold Ij at this h;exact⟨by unfold Ms;omega,by unfold Ms;omega⟩)
 (·have:=mem_sum (f:=BS) hx;unfold BS at this h;exact⟨by unfold Ms;omega,by unfold Ms;omega⟩)
 (·have h0:=hR x hx;have h1:=hS x hx;refine⟨by unfold Ms;omega,by omega,fun y hy=>?_⟩;have:=h1.2 y hy;exact⟨strs_of (by omega),strs_of (by omega),by unfold Ms;omega,strs_of (by omega)⟩)
 (·have:=hT t ht;omega)
 (·have h1:=hS r hr;refine⟨by omega,fun y hy=>?_⟩;have:=h1.2 y hy;have a1:=len_sum (f:=mB) (fun x=>by unfold mB;omega) y.inp;have a2:=len_sum (f:=mB) (fun x=>by unfold mB;omega) y.o;have a3:=len_sum (f:=mB) (fun x=>by unfold mB;omega) y.cells;omega)
 (·have h0:=hF f hf;have h1:=hP f hf;have:=nodes_mE f.body;omega);have h0:=hC c hc;have:=nodes_mE c.lC;unfold Ii at h0;omega
end Go.Proofs.YtfppbjfnllhgcaaGreat
