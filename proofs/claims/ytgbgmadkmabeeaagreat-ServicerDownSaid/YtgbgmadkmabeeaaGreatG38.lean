/- Part 38 of what the laws of this seat share: walks of functions, and plain laws. -/
import Derived.Test.YtgbgmadkmabeeaaGreatG2
set_option maxRecDepth 100000
set_option maxHeartbeats 400000
namespace Go.Proofs.YtgbgmadkmabeeaaGreat
open Go.RowKit Go.IntWalk
theorem Zf(P:Nat)(v:Value)(p:Pd)(g n:Nat)(i:Int)(x:Lf)(w:World)(hv:v.ownBlock=some g)(hx:p.l[n]?=some x)(h:PadAt w P v p):
  Calls Tryz.prog 85 (#[.int .i64 i,.pointer (some ⟨g,n*49,none⟩)]++ #[]) w λe w'=>e= .returned (.tuple #[])/\PadAt w' P v { p with l:=p.l.set n lf0 }/\Keeps (λk=>k=g) w w':=by
 obtain⟨ad,cap,rfl,_⟩:=h.shape
 have hown:ad=some ⟨g,0,none⟩:=by
  exact j2r
 subst hown;obtain⟨cur,hcur,hlc,hp,hk⟩:=h.Yu (List.getElem?_eq_some_iff.1 hx).1 lf0;show Calls Tryz.prog 85 #[.int .i64 i,.pointer (some ⟨g,n*49,none⟩)] w _;obtain⟨H,Hx,Hcur,Hlc,Hp,Hk⟩:=hid6 h hx hcur hlc hp hk;clear hk hp hlc hcur hx h;go_enter Tryz.func85,Tryz.ntmps85
 go_wp2_with (refine Sr rfl 149 (.tmp 6) (.tmp 5) rfl g (n*49) (Lf.cells lf0) rfl rfl 149 cur Hcur.o (by rw [Uh,Lf.Aj]) Hlc.o (Lf.one _) ?_)
 go_end0;exact⟨rfl,Hp.o,Hk.o⟩
theorem Abb(P:Nat)(v:Value)(p:Pd)(w:World)(h:PadAt w P v p)(hd:p.dn=true):
  Calls Tryz.prog 41 #[(.pointer (some ⟨P,0,none⟩))] w λe w'=>e= .returned (.tuple #[])/\PadAt w' P v { p with dn:=false,l:=eachW (λ_ _=>lf0) 0 p.l }/\Keeps (PFoot P v) w w':=by
 have c3:w.cell? ⟨P,3,none⟩=some (.bool p.dn):=Aa h.blk 3;have f3:=Ab h.blk 3;have lt:=lt_of_block h.blk;have hk1:Keeps (λk=>k=P) w (w.setCell ⟨P,3,none⟩ (.bool false)):=Keeps.setCell _ _ _ rfl;have h1:PadAt (w.setCell ⟨P,3,none⟩ (.bool false)) P v { p with dn:=false }:=h.put (q:={ p with dn:=false }) rfl h.sn0 h.fl0 hk1 (heap_setCell_same _ _ 3 _ _ _ h.blk)
 have he:=Rq P v { p with dn:=false } 85 #[] (λ_ _=>lf0) (λ_ _=>True) (λk=>v.ownBlock=some k) _ (enters_of Tryz.func85 j9 rfl)
  (λg n x W hv hx hx1 hp _=>by
   refine(Zf P v _ g n _ x W hv (Tj (λ_ _=>lf0) hx) hp).mono ?_;rintro e W' ⟨rfl,h2,h3⟩;refine⟨rfl, ?_,trivial,h3.mono λk _ e=>by rw [e];exact hv⟩
   rw [Qw _ hx,if_pos hx1];exact h2) h1 trivial (λ_ _ _ _ _=>trivial)
 rw [hd] at c3;obtain⟨H,Hk1,H1,He⟩:=hid4 h hk1 h1 he;clear he h1 hk1 h;go_enter Tryz.func41,Tryz.ntmps41
 go_wp2_with (go_at_call 83;(with_reducible refine He.o.mono ?_);rintro e w3 ⟨rfl,hp3,_,hk3⟩;have Hp3:=Lib.hid hp3;have Hk3:=Lib.hid hk3;clear hp3 hk3)
 go_end0;exact⟨rfl,Hp3.o,(Hk1.o.mono λk _ e=> .inl e).trans (Hk3.o.mono λk _ e=> .inl (.inr e))⟩
theorem Adk(T:Nat->Lf->Lf){l:List Lf}(h:∀x∈l,¬x.is=1):∀i,eachW T i l=l:=by
 induction l with
 |nil=>intro i;rfl
 |cons x l ih=>intro i;unfold eachW;rw [if_neg (h x (by simp)),ih (λy hy=>h y (by simp [hy]))]
theorem Yf(T:Nat->Lf->Lf)(y z:Lf)(hy:y.is=1)(hT:∀i x,T i x=z):∀{l:List Lf} {k:Nat},(∀x∈l,¬x.is=1)->k<l.length->∀i,eachW T i (l.set k y)=l.set k z
 | [],_,_,h,_=>by simp at h
 |x::l,0,h,_,i=>by
  rw [List.set_cons_zero,List.set_cons_zero,eachW,if_pos hy,hT,Adk T (λx hx=>h x (by simp [hx]))]
 |x::l,k+1,h,hk,i=>by
  rw [List.set_cons_succ,List.set_cons_succ,eachW,if_neg (h x (by simp)),Yf T y z hy hT (λx hx=>h x (by simp [hx])) (by simpa using hk)]
end Go.Proofs.YtgbgmadkmabeeaaGreat
