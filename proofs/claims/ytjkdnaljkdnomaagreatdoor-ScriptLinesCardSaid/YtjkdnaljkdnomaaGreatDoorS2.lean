/- Part 2 of what the laws of this seat share: walks of functions, and plain laws. -/
import Derived.Test.YtjkdnaljkdnomaaGreatDoorS1
set_option maxRecDepth 100000
set_option maxHeartbeats 3200000
namespace Go.Proofs.YtjkdnaljkdnomaaGreatDoor
open Go.RowKit
def Jr(seq:Int):List SV->List SV->List Adj->Int×List Adj
 |a::A,b::B,acc=>if a.s.Db&&b.s.Db then Jr seq A B (acc++Er seq a.s b.s) else(5, [])
 |_,_,acc=>(0,acc)
def Betw(seq:Int)(L M:List SV)(r:Int×List Adj):Prop:=((L.length=M.length/\Mo L M L.length)/\r=Jr seq L M [])\/(¬(L.length=M.length/\Mo L M L.length)/\r=(1, []))
def BetPost(w:World)(r:Int×List Adj)(e:Ending)(w':World):Prop:=
 ∃v,e= .returned (.tuple #[v,.int .i64 r.1])/\w'.ownsRow 0 142 9 v r.2.length (r.2.flatMap Adj.cells)/\Fresh w w' v
def SVs(w:World)(L:List SV):Prop:=∀x∈L,Reads w 3 x.v x.s.lines.length (x.s.lines.flatMap Ln.cells)/\x.s.lines.length<=1000
theorem SVs.keep{w w':World}{L:List SV}(h:SVs w L)(hk:K0 w w'):SVs w' L:=λx hx=>⟨(h x hx).1.keeps hk (by simp),(h x hx).2⟩
theorem Xf(seq:Int)(a b:Stm):(Er seq a b).length<=a.lines.length+1:=by
 unfold Er;have:=Jm seq a.cycle a.lines b.lines a.lines.length;simp only [List.length_append]
 split<;>simp<;>omega
theorem Fh(s:Stm)(v:Value)(w:World){r:Bool}(hr:Reads w 3 v s.lines.length (s.lines.flatMap Ln.cells))(hl:s.lines.length<=1000)(he:s.Db=r):
  Calls Tryz.prog 140 #[.agg #[.int .i64 s.cycle,.int .i64 s.fr,.int .i64 s.te,.int .i64 s.due,v,.int .i64 s.total,.int .i64 s.credit,.int .i64 s.min,.bool s.grace]] w λe w'=>e= .returned (.bool r)/\K0 w w':=by
 have hr':=hr;obtain⟨ad,c,rfl,_⟩:=hr';subst he;exact Uw s ad c w hr j6
theorem adjOne_at(seq:Int)(a b:Stm)(va vb:Value)(w:World)(hra:Reads w 3 va a.lines.length (a.lines.flatMap Ln.cells))(hrb:Reads w 3 vb b.lines.length (b.lines.flatMap Ln.cells))(hab:a.lines.length=b.lines.length)(hl:a.lines.length<=1000)
  (hna:a.Db=true) (hnb:b.Db=true):
  Calls Tryz.prog 141 #[.int .i64 seq,.agg #[.int .i64 a.cycle,.int .i64 a.fr,.int .i64 a.te,.int .i64 a.due,va,.int .i64 a.total,.int .i64 a.credit,.int .i64 a.min,.bool a.grace],.agg #[.int .i64 b.cycle,.int .i64 b.fr,.int .i64 b.te,.int .i64 b.due,vb,.int .i64 b.total,.int .i64 b.credit,.int .i64 b.min,.bool b.grace]] w (Ng w seq a b):=
 Ady seq a b va vb w hra hrb hab (by omega) hna hnb
theorem Xt{α:Type}{L:List α}{k:Nat}{x:α}(h:L[k]?=some x):L.drop k=x::L.drop (k+1):=by
 have hk:=Dr h;rw [List.drop_eq_getElem_cons hk];rw [List.getElem?_eq_getElem hk] at h;rw [Option.some.inj h]
def bwS(A g o k:Nat)(x y:Stm)(vx vy:Value)(w':World):Prop:=
 w'.cell? ⟨A,0,none⟩=some (.int .i64 x.cycle)/\w'.cell? ⟨A,1,none⟩=some (.int .i64 x.fr)/\w'.cell? ⟨A,2,none⟩=some (.int .i64 x.te)/\w'.cell? ⟨A,3,none⟩=some (.int .i64 x.due)/\w'.cell? ⟨A,4,none⟩=some (vx)/\w'.cell? ⟨A,5,none⟩=some (.int .i64 x.total)/\w'.cell? ⟨A,6,none⟩=some (.int .i64 x.credit)/\w'.cell? ⟨A,7,none⟩=some (.int .i64 x.min)/\w'.cell? ⟨A,8,none⟩=some (.bool x.grace)/\w'.cell? ⟨g,o+k*9,none⟩=some (.int .i64 y.cycle)/\w'.cell? ⟨g,o+k*9+1,none⟩=some (.int .i64 y.fr)/\w'.cell? ⟨g,o+k*9+2,none⟩=some (.int .i64 y.te)/\w'.cell? ⟨g,o+k*9+3,none⟩=some (.int .i64 y.due)/\w'.cell? ⟨g,o+k*9+4,none⟩=some (vy)/\w'.cell? ⟨g,o+k*9+5,none⟩=some (.int .i64 y.total)/\w'.cell? ⟨g,o+k*9+6,none⟩=some (.int .i64 y.credit)/\w'.cell? ⟨g,o+k*9+7,none⟩=some (.int .i64 y.min)/\w'.cell? ⟨g,o+k*9+8,none⟩=some (.bool y.grace)
theorem bwS.keep{A g o k:Nat}{x y:Stm}{vx vy:Value}{W W':World}(h:bwS A g o k x y vx vy W)(hk:K0 W W'):bwS A g o k x y vx vy W':=by
 obtain⟨h0,h1,h2,h3,h4,h5,h6,h7,h8,h9,h10,h11,h12,h13,h14,h15,h16,h17⟩:=h;exact⟨(hk.cell (Ai h0) (by simp)).trans h0,(hk.cell (Ai h1) (by simp)).trans h1,(hk.cell (Ai h2) (by simp)).trans h2,(hk.cell (Ai h3) (by simp)).trans h3,(hk.cell (Ai h4) (by simp)).trans h4,(hk.cell (Ai h5) (by simp)).trans h5,(hk.cell (Ai h6) (by simp)).trans h6,(hk.cell (Ai h7) (by simp)).trans h7,(hk.cell (Ai h8) (by simp)).trans h8,(hk.cell (Ai h9) (by simp)).trans h9,(hk.cell (Ai h10) (by simp)).trans h10,(hk.cell (Ai h11) (by simp)).trans h11,(hk.cell (Ai h12) (by simp)).trans h12,(hk.cell (Ai h13) (by simp)).trans h13,(hk.cell (Ai h14) (by simp)).trans h14,(hk.cell (Ai h15) (by simp)).trans h15,(hk.cell (Ai h16) (by simp)).trans h16,(hk.cell (Ai h17) (by simp)).trans h17⟩
theorem bwS.keep2{A g o k:Nat}{x y:Stm}{vx vy:Value}{W W':World}{T:Nat->Prop}(h:bwS A g o k x y vx vy W)(hk:Keeps T W W')(hA:¬T A)(hg:¬T g):bwS A g o k x y vx vy W':=by
 obtain⟨h0,h1,h2,h3,h4,h5,h6,h7,h8,h9,h10,h11,h12,h13,h14,h15,h16,h17⟩:=h;exact⟨(hk.cell (Ai h0) hA).trans h0,(hk.cell (Ai h1) hA).trans h1,(hk.cell (Ai h2) hA).trans h2,(hk.cell (Ai h3) hA).trans h3,(hk.cell (Ai h4) hA).trans h4,(hk.cell (Ai h5) hA).trans h5,(hk.cell (Ai h6) hA).trans h6,(hk.cell (Ai h7) hA).trans h7,(hk.cell (Ai h8) hA).trans h8,(hk.cell (Ai h9) hg).trans h9,(hk.cell (Ai h10) hg).trans h10,(hk.cell (Ai h11) hg).trans h11,(hk.cell (Ai h12) hg).trans h12,(hk.cell (Ai h13) hg).trans h13,(hk.cell (Ai h14) hg).trans h14,(hk.cell (Ai h15) hg).trans h15,(hk.cell (Ai h16) hg).trans h16,(hk.cell (Ai h17) hg).trans h17⟩
theorem Ac8{g o k:Nat}{y:Stm}{v:Value}{wr:World}(y0:wr.cell? ⟨g,o+k*9,none⟩=some (.int .i64 y.cycle))(y1:wr.cell? ⟨g,o+k*9+1,none⟩=some (.int .i64 y.fr))(y2:wr.cell? ⟨g,o+k*9+2,none⟩=some (.int .i64 y.te))(y3:wr.cell? ⟨g,o+k*9+3,none⟩=some (.int .i64 y.due))(y4:wr.cell? ⟨g,o+k*9+4,none⟩=some (v))(y5:wr.cell? ⟨g,o+k*9+5,none⟩=some (.int .i64 y.total))(y6:wr.cell? ⟨g,o+k*9+6,none⟩=some (.int .i64 y.credit))(y7:wr.cell? ⟨g,o+k*9+7,none⟩=some (.int .i64 y.min))(y8:wr.cell? ⟨g,o+k*9+8,none⟩=some (.bool y.grace)):
  ∀w',K0 wr w'->w'.cell? ⟨g,o+k*9,none⟩=some (.int .i64 y.cycle)/\w'.cell? ⟨g,o+k*9+1,none⟩=some (.int .i64 y.fr)/\w'.cell? ⟨g,o+k*9+2,none⟩=some (.int .i64 y.te)/\w'.cell? ⟨g,o+k*9+3,none⟩=some (.int .i64 y.due)/\w'.cell? ⟨g,o+k*9+4,none⟩=some (v)/\w'.cell? ⟨g,o+k*9+5,none⟩=some (.int .i64 y.total)/\w'.cell? ⟨g,o+k*9+6,none⟩=some (.int .i64 y.credit)/\w'.cell? ⟨g,o+k*9+7,none⟩=some (.int .i64 y.min)/\w'.cell? ⟨g,o+k*9+8,none⟩=some (.bool y.grace):=λw' hk=>⟨(hk.cell (Ai y0) (by simp)).trans y0,(hk.cell (Ai y1) (by simp)).trans y1,(hk.cell (Ai y2) (by simp)).trans y2,(hk.cell (Ai y3) (by simp)).trans y3,(hk.cell (Ai y4) (by simp)).trans y4,(hk.cell (Ai y5) (by simp)).trans y5,(hk.cell (Ai y6) (by simp)).trans y6,(hk.cell (Ai y7) (by simp)).trans y7,(hk.cell (Ai y8) (by simp)).trans y8⟩
theorem Py{w:World}{base:Nat}{e:TypeId}{size:Nat}{v:Value}{n:Nat}{xs:List Value}(h:w.ownsRow base e size v n xs){g:Nat}(hv:v.ownBlock=some g):g<w.heap.size:=by
 exact j2t
theorem Uy(seq:Int)(ad1 ad2:Option Addr)(c1 c2:Nat)(L M:List SV)(w:World)(h1:Reads w 9 (.slice ad1 L.length c1) L.length (L.flatMap SV.cells))(h2:Reads w 9 (.slice ad2 M.length c2) M.length (M.flatMap SV.cells))
  (hl:L.length<=1000) (hm:M.length<=1000) (hsl:SVs w L) (hsm:SVs w M) (r:Int×List Adj) (hB:Betw seq L M r):
  Calls Tryz.prog 117 #[.int .i64 seq,.slice ad1 L.length c1,.slice ad2 M.length c2] w (BetPost w r):=by
 obtain⟨i0,hi,hi0,hi1,hi2⟩:=info_parts Gz;obtain⟨n,hn⟩:=eX L.length;obtain⟨m,hm'⟩:=eX M.length;rw [hn] at hl;rw [hm'] at hm;have heq:=λW (hW:K0 w W)=>Ze ad1 ad2 c1 c2 L M W (h1.keeps hW (by simp)) (h2.keeps hW (by simp)) j6 j6;rw [hn] at h1;rw [hm'] at h2;rw [hn,hm'] at heq;unfold Betw at hB;rw [hn,hm'] at hB;rw [hn,hm'];rcases hB with⟨⟨hnm,hal⟩,hb⟩|⟨hal,hb⟩
 ·subst hnm;obtain⟨H1,H2,Hn,Hm',Hsl,Hsm,Heq,Hal,Hi⟩:=hid9 h1 h2 hn hm' hsl hsm heq hal hi;clear hi hal heq hsm hsl hm' hn h2 h1;obtain⟨Hi0,Hi1,Hi2⟩:=hid3 hi0 hi1 hi2;clear hi2 hi1 hi0;go_enter Tryz.func117,Tryz.ntmps117;go_wp2_with fail;refine(Heq.o _ (Keeps.refl _ _)).mono ?_;rintro e w1 ⟨b,rfl,hr,hk1⟩;obtain rfl:b=true:=hr.2 ⟨(by first|trivial|rfl),Hal.o⟩;clear hr;have Hk1:=Lib.hid hk1;clear hk1;go_wp2_with fail
  go_loopw [8,17] (λv c wr=>∃(k:Nat) (acc:List Adj) (adv:Option Addr) (cv:Nat),k<=n/\c= .int .i64 (k:Nat)/\v= .slice adv acc.length cv/\wr.ownsRow 0 142 9 (.slice adv acc.length cv) acc.length (acc.flatMap Adj.cells)/\Fresh w wr (.slice adv acc.length cv)/\acc.length<=k*1001/\Jr seq L M []=Jr seq (L.drop k) (M.drop k) acc) (λ_ c _=>n-(intOf c).toNat)
  case atStart=>exact⟨0, [],none,0,Nat.zero_le _,rfl,rfl,World.ownsRow_nil _ _ _ _,⟨Hk1.o,by simp [Value.ownBlock]⟩,Nat.zero_le _,rfl⟩
  case round=>
   obtain⟨k,acc,adv,cv,hkn,rfl,rfl,hrow,hfr,hac,hbet⟩:=hrel;obtain⟨q,hq⟩:=eX acc.length;rw [hq] at hrow hfr hac⊢;by_cases hlt:k<n
   ·obtain⟨x,hx⟩:=Ar (L:=L) (k:=k) j06;obtain⟨y,hy⟩:=Ar (L:=M) (k:=k) (by rw [Hm'.o];exact hlt);obtain⟨g,o,c,he,hc⟩:=(H1.o.keeps hfr.1 (by simp)).elem SV.Aj hx j7;obtain⟨g',o',c',he',hc'⟩:=(H2.o.keeps hfr.1 (by simp)).elem SV.Aj hy j7;simp only [Value.slice.injEq,true_and] at he he';obtain⟨rfl,rfl⟩:=he;obtain⟨rfl,rfl⟩:=he';refine j2u ?_;intro x0 x1 x2 x3 x4 x5 x6 x7 x8;have y0:wr.cell? ⟨g',o'+k*9,none⟩=some (.int .i64 y.s.cycle):=hc' 0 j7;have y1:wr.cell? ⟨g',o'+k*9+1,none⟩=some (.int .i64 y.s.fr):=hc' 1 j7;have y2:wr.cell? ⟨g',o'+k*9+2,none⟩=some (.int .i64 y.s.te):=hc' 2 j7;have y3:wr.cell? ⟨g',o'+k*9+3,none⟩=some (.int .i64 y.s.due):=hc' 3 j7;have y4:wr.cell? ⟨g',o'+k*9+4,none⟩=some y.v:=hc' 4 j7;have y5:wr.cell? ⟨g',o'+k*9+5,none⟩=some (.int .i64 y.s.total):=hc' 5 j7;have y6:wr.cell? ⟨g',o'+k*9+6,none⟩=some (.int .i64 y.s.credit):=hc' 6 j7;have y7:wr.cell? ⟨g',o'+k*9+7,none⟩=some (.int .i64 y.s.min):=hc' 7 j7;have y8:wr.cell? ⟨g',o'+k*9+8,none⟩=some (.bool y.s.grace):=hc' 8 j7;clear hc hc';have hsx:=Hsl.o x (List.mem_of_getElem? hx);have hsy:=Hsm.o y (List.mem_of_getElem? hy);have hab:=Hal.o k x y hlt hx hy;have hdL:L.drop k=x::L.drop (k+1):=Xt hx;have hdM:M.drop k=y::M.drop (k+1):=Xt hy;rw [hdL,hdM] at hbet;have hstep:Jr seq (x::L.drop (k+1)) (y::M.drop (k+1)) acc=if x.s.Db&&y.s.Db then Jr seq (L.drop (k+1)) (M.drop (k+1)) (acc++Er seq x.s y.s) else(5, []):=rfl;rw [hstep] at hbet;have hRx:=(hsx.1.keeps hfr.1 (by simp));have hRy:=(hsy.1.keeps hfr.1 (by simp));have hlx:=hsx.2;have hly:=hsy.2
    have hxy:x.s.lines.length=y.s.lines.length:=by
     simp only [Gx,Bool.and_eq_true,decide_eq_true_eq] at hab;exact hab.2
    clear hsx hsy hab hstep hdL hdM;have hkI:(k:Int)<(n:Int):=j8;obtain⟨xs,adx,cx⟩:=x;obtain⟨ys,ady,cy⟩:=y;simp only [SV.v] at x4 y4 hRx hRy hbet hlx hly hxy;obtain⟨lx,hlx'⟩:=eX xs.lines.length;rcases nx:xs.Db with _|_
    ·rw [nx] at hbet;have hbet':r=(5, []):=by rw [hb];exact hbet
     subst hbet';clear hx hy;obtain⟨Hrow,Hfr,Hq⟩:=hid3 hrow hfr hq;clear hq hfr hrow hbet;obtain⟨HRx,HRy,Nx,Hxy,Hb⟩:=hid5 hRx hRy nx hxy hb;clear hb hxy nx hRy hRx hlx'
     go_wp2_with (go_at_call 140;((with_reducible refine(Fh xs _ _ (HRx.o.keeps (S:=λ_=>False) jg (by simp)) hlx Nx.o).mono ?_);rintro e w3 ⟨rfl,hk3⟩;have Hk3:=Lib.hid hk3;clear hk3))
     go_ret2
     exact⟨_,rfl,World.ownsRow_nil _ _ _ _,(Hfr.o.1.Ce jg).Ce Hk3.o,by simp [Value.ownBlock]⟩
    ·rcases ny:ys.Db with _|_
     ·rw [nx,ny] at hbet;have hbet':r=(5, []):=by rw [hb];exact hbet
      subst hbet';have hyc:=Ac8 y0 y1 y2 y3 y4 y5 y6 y7 y8;clear hx hy;obtain⟨Hrow,Hfr,Hq⟩:=hid3 hrow hfr hq;clear hq hfr hrow hbet;obtain⟨HRx,HRy,Nx,Ny,Hxy,Hb⟩:=hid6 hRx hRy nx ny hxy hb;clear hb hxy ny nx hRy hRx hlx';have Hyc:=Lib.hid hyc;clear hyc
      go_wp2_with (go_at_call 140;((with_reducible refine(Fh xs _ _ (HRx.o.keeps (S:=λ_=>False) jg (by simp)) hlx Nx.o).mono ?_);rintro e w3 ⟨rfl,hk3⟩;have Hk3:=Lib.hid hk3;clear hk3;obtain⟨z0,z1,z2,z3,z4,z5,z6,z7,z8⟩:=Hyc.o _ (Keeps.Ce jg Hk3.o)))
      go_wp2_with (go_at_call 140;((with_reducible refine(Fh ys _ _ (HRy.o.keeps (S:=λ_=>False) (Keeps.Ce jg Hk3.o) (by simp)) hly Ny.o).mono ?_);rintro e w4 ⟨rfl,hk4⟩;have Hk4:=Lib.hid hk4;clear hk4))
      go_ret2
      exact⟨_,rfl,World.ownsRow_nil _ _ _ _,((Hfr.o.1.Ce jg).Ce Hk3.o).Ce Hk4.o,by simp [Value.ownBlock]⟩
     ·rw [nx,ny] at hbet;have hbet':r=Jr seq (L.drop (k+1)) (M.drop (k+1)) (acc++Er seq xs ys):=by rw [hb];exact hbet
      have hyc:=Ac8 y0 y1 y2 y3 y4 y5 y6 y7 y8;have hbox:=heap_alloc_new wr (.cells #[.int .i64 xs.cycle,.int .i64 xs.fr,.int .i64 xs.te,.int .i64 xs.due,.slice adx xs.lines.length cx,.int .i64 xs.total,.int .i64 xs.credit,.int .i64 xs.min,.bool xs.grace] 59);have hown0:∀i,(Value.slice adv q cv).ownBlock=some i->i<wr.heap.size/\w.heap.size<=i:=λi e=>⟨Py hrow e,hfr.2 i e⟩
      have hg0:g'<w.heap.size:=by
       obtain⟨i,e,hi⟩:=H2.o.lt (by intro e;have:=Cs SV.Aj M;rw [e,Hm'.o] at this;simp at this;omega);simp only [Value.ownBlock,Option.some.injEq] at e;omega
      clear hx hy;obtain⟨Hrow,Hfr,Hq⟩:=hid3 hrow hfr hq;clear hq hfr hrow hbet;obtain⟨Hbet',HRx,HRy,Nx,Ny,Hxy,Hb⟩:=hid7 hbet' hRx hRy nx ny hxy hb;clear hb hxy ny nx hRy hRx hbet' hlx';obtain⟨Hyc,Hbox,Hown0⟩:=hid3 hyc hbox hown0;clear hown0 hbox hyc
      go_wp2_with (go_at_call 140;((with_reducible refine(Fh xs _ _ (HRx.o.keeps (S:=λ_=>False) jg (by simp)) hlx Nx.o).mono ?_);rintro e w3 ⟨rfl,hk3⟩;have Hk3:=Lib.hid hk3;clear hk3;obtain⟨z0,z1,z2,z3,z4,z5,z6,z7,z8⟩:=Hyc.o _ (Keeps.Ce jg Hk3.o)))
      go_wp2_with (go_at_call 140;((with_reducible refine(Fh ys _ _ (HRy.o.keeps (S:=λ_=>False) (Keeps.Ce jg Hk3.o) (by simp)) hly Ny.o).mono ?_);rintro e w4 ⟨rfl,hk4⟩;have Hk4:=Lib.hid hk4;clear hk4))
      have hkA:K0 wr w4:=(Keeps.Ce jg Hk3.o).Ce Hk4.o
      have hs4:bwS wr.heap.size g' o' k xs ys (.slice adx xs.lines.length cx) (.slice ady ys.lines.length cy) w4:=by
       have hb4:=Ad (Ad Hbox.o Hk3.o (by simp)) Hk4.o (by simp);obtain⟨t0,t1,t2,t3,t4,t5,t6,t7,t8⟩:=Hyc.o _ hkA;exact⟨Aa hb4 0,Aa hb4 1,Aa hb4 2,Aa hb4 3,Aa hb4 4,Aa hb4 5,Aa hb4 6,Aa hb4 7,Aa hb4 8,t0,t1,t2,t3,t4,t5,t6,t7,t8⟩
      obtain⟨HkA,Hs4⟩:=hid2 hkA hs4;clear hs4 hkA;clear z0 z1 z2 z3 z4 z5 z6 z7 z8 y0 y1 y2 y3 y4 y5 y6 y7 y8 x0 x1 x2 x3 x4 x5 x6 x7 x8;refine Ak (bwS wr.heap.size g' o' k xs ys (.slice adx xs.lines.length cx) (.slice ady ys.lines.length cy)) (.take 0 (.take 1 (.take 2 (.take 3 (.take 4 (.take 5 (.take 6 (.move 7 (.move 8 (.take 9 .done)))))))))) j9 j9 ?_ ?_
      ·exact Hs4.o.keep (Keeps.drew _)
      intro w5 hs5 hk5;have hkB:K0 wr w5:=HkA.o.Ce hk5;obtain⟨Hs5,HkB⟩:=hid2 hs5 hkB;clear hkB hs5;clear hk5;refine j1i ?_;refine ja ?_;intro K hK
      go_at_call 141
      ((with_reducible refine(adjOne_at seq xs ys _ _ _ (HRx.o.keeps HkB.o (by simp)) (HRy.o.keeps HkB.o (by simp)) Hxy.o hlx Nx.o Ny.o).mono ?_);rintro e w6 ⟨v6,rfl,hrow6,hfr6⟩;dsimp only)
      refine hK.out _ _ (by exact Hs5.o.keep hfr6.1) ?_;clear hK K;refine jc ?_;obtain⟨Hrow6,Hfr6⟩:=hid2 hrow6 hfr6;clear hfr6 hrow6;refine j1i ?_;have hol:=Xf seq xs ys;obtain⟨ad6,c6,rfl,_,_⟩:=Ae Hrow6.o;refine Ag rfl (λK hK=> ?_);refine Cc rfl (.tmp 33) (.tmp 40) 102 rfl 0 142 i0 _ 9 72 Tryz.underlying102 Hi.o Hi0.o Hi1.o Hi2.o rfl j7 (.slice adv q cv) q _ rfl ((Hrow.o.of_keeps HkB.o).of_keeps Hfr6.o.1) _ _ _ rfl (Reads.Bg Hrow6.o) (Adj.one _) jd j6 (Nat.zero_le _) ?_;intro v7 w7 hown hk7 hf7;have hk7':Keeps (λi=>(Value.slice adv q cv).ownBlock=some i) wr w7:=(HkB.o.trans (Hfr6.o.1.mono (by simp))).mono (λ_ _ h=>h.elim)|>.trans (hk7.mono λi _ e=> .inl e)
      refine hK.out _ _ (by exact(Hs5.o.keep Hfr6.o.1).keep2 hk7 (λe=>by have:=(Hown0.o _ e).1;omega) (λe=>by have:=(Hown0.o _ e).2;omega)) ?_;clear hK K;refine jc ?_
      have hfr7:Fresh w w7 v7:=by
       refine⟨Hfr.o.1.trans (hk7'.mono λi _ e=> .inr (Hown0.o i e).2),λi e=> ?_⟩;rcases hf7 with e'|⟨i',e',h'⟩
       ·exact(Hown0.o i (by rw [<-e'];exact e)).2
       ·rw [e'] at e;simp only [Option.some.injEq] at e;have:=Hfr.o.1.size;have:=HkB.o.size;have:=Hfr6.o.1.size;omega
      obtain⟨ad7,c7,rfl,_,_⟩:=Ae hown
      have hown':w7.ownsRow 0 142 9 (.slice ad7 (acc++Er seq xs ys).length c7) (acc++Er seq xs ys).length ((acc++Er seq xs ys).flatMap Adj.cells):=by
       simp only [List.length_append,Hq.o,List.flatMap_append];exact hown
      have hlen:(acc++Er seq xs ys).length=q+(Er seq xs ys).length:=by rw [List.length_append,Hq.o]
      rw [<-hlen] at hfr7⊢;obtain⟨Hfr7,Hown',Hlen⟩:=hid3 hfr7 hown' hlen;clear hlen hown' hfr7;clear hk7' hf7 hown hk7;refine j1i ?_;refine Aq ?_;go_wp2_with fail;go_roundw
      case rel=>exact⟨k+1,acc++Er seq xs ys,ad7,c7,by omega,by go_num,by simp,Hown'.o,Hfr7.o,by rw [Hlen.o];omega,by rw [<-Hb.o];exact Hbet'.o⟩
      case measure=>simp [intOf];omega
   ·obtain rfl:k=n:=by omega
    have hr0:r=(0,acc):=by
     rw [hb,hbet,List.drop_eq_nil_of_le j1j];rfl
    subst hr0;obtain⟨Hrow,Hfr,Hq⟩:=hid3 hrow hfr hq;clear hq hfr hrow hbet;have Hb:=Lib.hid hb;clear hb;go_wp2_with fail
    go_ret2
    exact⟨_,rfl,by rw [Hq.o];exact Hrow.o,Hfr.o⟩
 ·subst hb;obtain⟨H1,H2,Hn,Hm',Hsl,Hsm,Heq,Hal,Hi⟩:=hid9 h1 h2 hn hm' hsl hsm heq hal hi;clear hi hal heq hsm hsl hm' hn h2 h1;obtain⟨Hi0,Hi1,Hi2⟩:=hid3 hi0 hi1 hi2;clear hi2 hi1 hi0;go_enter Tryz.func117,Tryz.ntmps117;go_wp2_with fail;refine(Heq.o _ (Keeps.refl _ _)).mono ?_;rintro e w1 ⟨b,rfl,hr,hk1⟩
  obtain rfl:b=false:=by
   cases b with
   |false=>rfl
   |true=>exact absurd (hr.1 rfl) Hal.o
  clear hr;have Hk1:=Lib.hid hk1;clear hk1;go_wp2_with fail
  go_ret2
  exact⟨_,rfl,World.ownsRow_nil _ _ _ _,Hk1.o,by simp [Value.ownBlock]⟩
end Go.Proofs.YtjkdnaljkdnomaaGreatDoor
