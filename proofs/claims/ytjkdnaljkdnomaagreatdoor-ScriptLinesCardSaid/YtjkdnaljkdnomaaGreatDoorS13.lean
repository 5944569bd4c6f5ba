/- Part 13 of what the laws of this seat share: walks of functions, and plain laws. -/
import Derived.Lib.SliceRun
import Derived.Test.YtjkdnaljkdnomaaGreatDoorS3
import Derived.Test.YtjkdnaljkdnomaaGreatDoorS7
set_option maxRecDepth 100000
set_option maxHeartbeats 400000
namespace Go.Proofs.YtjkdnaljkdnomaaGreatDoor
open Go.RowKit
theorem Md(g:Nat):∀(vs:List Value) (o:Nat) (w:World),Keeps (λk=>k=g) w (w.setCells g o vs)
 | [],_,_=>Keeps.refl _ _
 |v::r,o,w=>(Keeps.setCell (S:=λk=>k=g) w ⟨g,o,none⟩ v rfl).trans ((Md g r (o+1) _).mono λ_ _ h=> .inl h)
theorem Gt{α:Type}{f:α->List Value}{size:Nat}{hf:∀x,(f x).length=size}{w:World}{base:Nat}{e:TypeId}{g cap n:Nat}{L:List α}(h:w.ownsRow base e size (.slice (some ⟨g,0,none⟩) n cap) n (L.flatMap f))(hl:L.length=n){k:Nat}{x y:α}(hx:L[k]?=some x)(j:Nat)(hj:j<size)
  {u:Value} (hy:(f x).set j u=f y):(w.setCell ⟨g,k*size+j,none⟩ u).ownsRow base e size (.slice (some ⟨g,0,none⟩) n cap) n ((L.set k y).flatMap f):=by
 subst hl;exact Je hf h hx j hj hy
theorem Px{w:World}{g cap n k:Nat}{L:List Ev}(h:w.ownsRow 0 186 5 (.slice (some ⟨g,0,none⟩) n cap) n (L.flatMap Ev.cells))(hl:L.length=n)(hk:k<n)(a b c d e:Int):
  (((((w.setCell ⟨g,k*5,none⟩ (.int .i64 a)).setCell ⟨g,k*5+1,none⟩ (.int .i64 b)).setCell ⟨g,k*5+2,none⟩ (.int .i64 c)).setCell ⟨g,k*5+3,none⟩ (.int .i64 d)).setCell ⟨g,k*5+4,none⟩ (.int .i64 e)).ownsRow 0 186 5 (.slice (some ⟨g,0,none⟩) n cap) n ((L.set k ⟨a,b,c,d,e⟩).flatMap Ev.cells):=by
 obtain⟨⟨a0,b0,c0,d0,e0⟩,hx⟩:=Ar (L:=L) (k:=k) j6;have s1:=Gt (hf:=Ev.Aj) h hl hx (y:=⟨a,b0,c0,d0,e0⟩) 0 j7 (u:= .int .i64 a) rfl;have s2:=Gt (hf:=Ev.Aj) s1 (by simp [hl]) (x:=⟨a,b0,c0,d0,e0⟩) (k:=k) (by simp [hl,hk]) (y:=⟨a,b,c0,d0,e0⟩) 1 j7 (u:= .int .i64 b) rfl;have s3:=Gt (hf:=Ev.Aj) s2 (by simp [hl]) (x:=⟨a,b,c0,d0,e0⟩) (k:=k) (by simp [hl,hk]) (y:=⟨a,b,c,d0,e0⟩) 2 j7 (u:= .int .i64 c) rfl;have s4:=Gt (hf:=Ev.Aj) s3 (by simp [hl]) (x:=⟨a,b,c,d0,e0⟩) (k:=k) (by simp [hl,hk]) (y:=⟨a,b,c,d,e0⟩) 3 j7 (u:= .int .i64 d) rfl;have s5:=Gt (hf:=Ev.Aj) s4 (by simp [hl]) (x:=⟨a,b,c,d,e0⟩) (k:=k) (by simp [hl,hk]) (y:=⟨a,b,c,d,e⟩) 4 j7 (u:= .int .i64 e) rfl;simp only [List.set_set] at s5;exact s5
theorem Yh(w:World)(ty:TypeId)(g i n c cap:Nat)(xs:List Value)(h:w.ownsRow 0 186 5 (.slice (some ⟨g,0,none⟩) n cap) n xs)(hi:i<n):∃vs:List Value,
  (Builtin.clear_ #[170] ty #[.slice (some ⟨g,i*5,none⟩) (n-i) c]).run Tryz.prog w= .ok (.tuple #[]) (w.setCells g (i*5) vs):=by
 rcases h.2 with⟨h0,_⟩|⟨g1,cap1,cur,h0,_,hh,h1,_,h3,_⟩
 ·simp at h0
 simp only [Value.slice.injEq,Option.some.injEq,Addr.mk.injEq,and_true,true_and] at h0;obtain⟨rfl,rfl⟩:=h0;refine⟨(Builtin.zeroCells (Value.agg #[.int .i64 0,.int .i64 0,.int .i64 0,.int .i64 0,.int .i64 0]).cells (n-i)).toList, ?_⟩;have hlen:((Builtin.zeroCells (Value.agg #[.int .i64 0,.int .i64 0,.int .i64 0,.int .i64 0,.int .i64 0]).cells (n-i)).toList).length=(n-i)*5:=by simp [Value.cells,Builtin.zeroCells]
 have hst:=run_storeCells_cells (P:=Tryz.prog) g (i*5) (Builtin.zeroCells (Value.agg #[.int .i64 0,.int .i64 0,.int .i64 0,.int .i64 0,.int .i64 0]).cells (n-i)).toList 0 w
  (λj hj=>by
   rw [hlen] at hj
   rw [Aa hh,Array.getElem?_eq_getElem (by rw [h3];omega)];rfl)
  (λj hj=>Ab hh _)
  (λv hv=>by
   simp only [Builtin.zeroCells,Value.cells,Array.mem_toList_iff,Array.mem_map,Array.mem_range] at hv;obtain⟨j,_,rfl⟩:=hv;have h5:j % 5<5:=Nat.mod_lt _ j7
   rcases(show j % 5=0\/j % 5=1\/j % 5=2\/j % 5=3\/j % 5=4 by omega) with h|h|h|h|h<;>simp [h]<;>rfl)
 simp only [Nat.add_zero] at hst;obtain⟨m,hm⟩:∃m,n-i=m+1:=⟨n-i-1,by omega⟩;have hv:(zeroValue 186).run Tryz.prog w= .ok (.agg #[.int .i64 0,.int .i64 0,.int .i64 0,.int .i64 0,.int .i64 0]) w:=by go_simp
 rw [hm] at hst⊢;simp [Builtin.clear_,run_underlying Tryz.underlying170,hv,hst]
theorem find_none{q:Ev->Bool}{L:List Ev}(h:L.findIdx? q=none):L.filter (λx=> !q x)=L:=by
 rw [List.filter_eq_self];intro x hx;have:=List.findIdx?_eq_none_iff.1 h x hx;simp [this]
def retI(o:Option Nat):Int:=match o with|some k=>(k:Int)|none=> -1
theorem Xm{q:Ev->Bool}{L:List Ev}{j:Nat}{x:Ev}(hx:L[j]?=some x)(h:∀i y,i<j->L[i]?=some y->q y=false)(hq:q x=true):L.findIdx? q=some j:=by
 rw [List.findIdx?_eq_some_iff_getElem];obtain⟨hl,he⟩:=List.getElem?_eq_some_iff.1 hx;refine⟨hl,by rw [he];exact hq,λi hi=> ?_⟩;have:=h i _ hi (List.getElem?_eq_getElem j6);simp [this]
theorem find_no{q:Ev->Bool}{L:List Ev}(h:∀i y,i<L.length->L[i]?=some y->q y=false):L.findIdx? q=none:=by
 rw [List.findIdx?_eq_none_iff];intro x hx;obtain⟨i,hi,he⟩:=List.mem_iff_getElem.1 hx;exact h i x hi (by rw [List.getElem?_eq_getElem hi,he])
end Go.Proofs.YtjkdnaljkdnomaaGreatDoor
