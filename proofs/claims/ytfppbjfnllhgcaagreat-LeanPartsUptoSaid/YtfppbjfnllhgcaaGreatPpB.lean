/- What a bound of a sheet's bulk says. -/
import Derived.Test.YtfppbjfnllhgcaaGreatPp14
namespace Go.Proofs.YtfppbjfnllhgcaaGreat
open Go Go.RowKit Go.Proofs Sh Kb
theorem mem_sum {α:Type} {f:α→Nat}:∀ {l:List α} {x:α},x∈l→f x≤(l.map f).sum
 |y :: l,x,h=>by
  simp only[List.map_cons,List.sum_cons];rcases List.mem_cons.1 h with rfl|h
  (·omega);have:=mem_sum (f:=f) h;omega
theorem len_sum {α:Type} {f:α→Nat} (h1:∀ x,1≤f x):∀ l:List α,l.length≤(l.map f).sum
 |[]=>by simp
 |x :: l=>by
  have:=len_sum h1 l;have:=h1 x;simp only[List.map_cons,List.sum_cons,List.length_cons];omega
mutual
theorem smE_of:∀ x:cw,mE x≤maxLen→lZ x
 | .mk _ _ u n l,h=>by
  simp only[mE]at h;exact⟨by unfold Ms;omega,by unfold Ms;omega,smL_of l (by omega)⟩
theorem smL_of:∀ l:List cw,mEL l≤maxLen→Vv l
 |[],_=>trivial
 |x :: l,h=>by
  simp only[mEL]at h;exact⟨smE_of x (by omega),smL_of l (by omega)⟩
end
mutual
theorem nodes_mE:∀ x:cw,6*cE x≤mE x
 | .mk _ _ u n l=>by
  have:=nodes_mEL l;simp only[mE,cE];omega
theorem nodes_mEL:∀ l:List cw,6*cT l≤mEL l
 |[]=>by simp[mEL,cT]
 |x :: l=>by
  have:=nodes_mE x;have:=nodes_mEL l;simp only[mEL,cT];omega
end
theorem sm_cell {x:fD} (h:IG x≤1048576):Zh x:=by
 unfold IG at h;(have:1048576≤maxLen:=by decide);exact⟨by unfold Ms;omega,by unfold Ms;omega,smE_of _ (by omega)⟩
theorem strs_of {l:List ByteArray} (h:(l.map mB).sum≤1048576):(∀ s∈l,Ms s)∧l.length≤maxLen:=by
 (have hm:1048576≤maxLen:=by decide);refine⟨fun s hs=>?_,?_⟩
 (·have:=mem_sum (f:=mB) hs;unfold mB at this h;unfold Ms;omega);have:=len_sum (f:=mB) (fun x=>by unfold mB;omega) l;omega
theorem lit_of {s:cK} (h:R8 s≤1048576):Lit s:=by
 (have hm:1048576≤maxLen:=by decide);unfold R8 at h;have i1:=len_sum (f:=wj) (fun x=>by unfold wj;omega) s.imports;have i2:=len_sum (f:=Cc) (fun x=>by unfold Cc;omega) s.inputs;have i3:=len_sum (f:=Ce) (fun x=>by unfold Ce;omega) s.tables;have i4:=len_sum (f:=IE) (fun x=>by unfold IE;omega) s.funcs;have i5:=len_sum (f:=IG) (fun x=>by unfold IG;omega) s.cells;have i6:=len_sum (f:=II) (fun x=>by unfold II;omega) s.ei;have i7:=len_sum (f:=Cg) (fun x=>by unfold Cg;omega) s.stores;have i8:=len_sum (f:=wm) (fun x=>by unfold wm;omega) s.cI;have hF:∀ f∈s.funcs,f.name.size+(f.params.map Cf).sum+mE f.body+1≤1048576:=fun f hf=>by
  have:=mem_sum (f:=IE) hf;unfold IE at this h;omega
 have hP:∀ f∈s.funcs,f.params.length≤1048576∧∀ p∈f.params,p.name.size+p.unit.size+1≤1048576:=fun f hf=>by
  have h0:=hF f hf;have h1:=len_sum (f:=Cf) (fun x=>by unfold Cf;omega) f.params;refine⟨by omega,fun p hp=>?_⟩;have:=mem_sum (f:=Cf) hp;unfold Cf at this h0;omega
 have hT:∀ t∈s.tables,t.name.size+t.unit.size+t.rows.length+1≤1048576:=fun t ht=>by
  have:=mem_sum (f:=Ce) ht;have h1:=len_sum (f:=R7) (fun x=>Nat.le_refl _) t.rows;unfold Ce at this h;omega
 have hR:∀ r∈s.cI,r.kind.size+(r.steps.map IJ).sum+1≤1048576:=fun r hr=>by
  have:=mem_sum (f:=wm) hr;unfold wm at this h;omega
 have hS:∀ r∈s.cI,r.steps.length≤1048576∧∀ y∈r.steps,(y.inp.map mB).sum+(y.o.map mB).sum+y.name.size+(y.cells.map mB).sum+1≤1048576:=fun r hr=>by
  have h0:=hR r hr;have h1:=len_sum (f:=IJ) (fun x=>by unfold IJ;omega) r.steps;refine⟨by omega,fun y hy=>?_⟩;have:=mem_sum (f:=IJ) hy;unfold IJ at this h0;omega
 have hC:∀ c∈s.cells,IG c≤1048576:=fun c hc=>by
  have:=mem_sum (f:=IG) hc;omega
 have hu:(uses s).length≤1048576:=by
  simp only[uses,gP,iA,List.length_append,List.length_map];omega
 refine⟨⟨by unfold Ms;omega,fun x hx=>?_,fun x hx=>?_,fun x hx=>?_,fun x hx=>?_,fun x hx=>sm_cell (hC x hx),fun x hx=>?_,fun x hx=>?_,fun x hx=>?_,by omega⟩,by omega,by simp only[xU,List.length_append,List.length_map];omega,by omega,by omega,by omega,by omega,fun t ht=>?_,fun r hr=>?_,fun f hf=>?_,fun c hc=>?_⟩
 (·have:=mem_sum (f:=wj) hx;unfold wj at this h;exact⟨by unfold Ms;omega,by unfold Ms;omega,by unfold Ms;omega⟩)
 (·have:=mem_sum (f:=Cc) hx;unfold Cc at this h;exact⟨by unfold Ms;omega,by unfold Ms;omega,by unfold Ms;omega⟩)
 (·have:=hT x hx;exact⟨by unfold Ms;omega,by unfold Ms;omega,by omega⟩)
 (·have h0:=hF x hx;have h1:=hP x hx;refine⟨by unfold Ms;omega,by omega,fun p hp=>?_,smE_of _ (by omega)⟩;have:=h1.2 p hp;exact⟨by unfold Ms;omega,by unfold Ms;omega⟩)
 (·have:=mem_sum (f:=II) hx;unfold II at this h;exact⟨by unfold Ms;omega,by unfold Ms;omega⟩)
 (·have:=mem_sum (f:=Cg) hx;unfold Cg at this h;exact⟨by unfold Ms;omega,by unfold Ms;omega⟩)
 (·have h0:=hR x hx;have h1:=hS x hx;refine⟨by unfold Ms;omega,by omega,fun y hy=>?_⟩;have:=h1.2 y hy;exact⟨strs_of (by omega),strs_of (by omega),by unfold Ms;omega,strs_of (by omega)⟩)
 (·have:=hT t ht;omega)
 (·have h1:=hS r hr;refine⟨by omega,fun y hy=>?_⟩;have:=h1.2 y hy;have a1:=len_sum (f:=mB) (fun x=>by unfold mB;omega) y.inp;have a2:=len_sum (f:=mB) (fun x=>by unfold mB;omega) y.o;have a3:=len_sum (f:=mB) (fun x=>by unfold mB;omega) y.cells;omega)
 (·have h0:=hF f hf;have h1:=hP f hf;have:=nodes_mE f.body;omega);have h0:=hC c hc;have:=nodes_mE c.kY;unfold IG at h0;omega
end Go.Proofs.YtfppbjfnllhgcaaGreat
