/- Part 13 of what the laws of this seat share: walks of functions, and plain laws. -/
import Derived.Test.YtgbgmadkmabeeaaGreatB12
set_option maxRecDepth 100000
set_option maxHeartbeats 3200000
namespace Go.Proofs.YtgbgmadkmabeeaaGreat
open Go.RowKit
theorem Ti(L:List Ln)(v1 v2:Value)(w:World)(h1:Reads w 3 v1 L.length (L.flatMap Ln.cells))(h2:Reads w 3 v2 L.length (L.flatMap Ln.cells))(hl:L.length<=1000000000000):
  Calls Tryz.prog 93 #[v1,v2] w λe w'=>e= .returned (.bool true)/\Keeps (λ_=>False) w w':=by
 obtain⟨H1,H2⟩:=hid2 h1 h2;clear h2 h1;go_enter Tryz.func93,Tryz.ntmps93
 go_wp2_with (go_at_call 140;refine(Vi L _ _ _ H1.out H2.out hl).mono ?_;rintro e w' ⟨rfl,hk2⟩;have Hk2:=Lib.hid hk2;clear hk2)
 go_ret;exact⟨rfl,Hk2.out⟩
theorem Tj(a:Int)(w:World):Calls Tryz.prog 128 #[.int .i64 a,.int .i64 a] w
  λe w'=>e= .returned (.bool true)/\w=w':=by
 go_enter Tryz.func128,Tryz.ntmps128;exact ji
theorem Xq(L:List Int)(v1 v2:Value)(w:World)(h1:Reads w 1 v1 L.length (L.flatMap i64c))(h2:Reads w 1 v2 L.length (L.flatMap i64c))(hl:L.length<=1000000000000):
  Calls Tryz.prog 127 #[v1,v2,.func (.func 128) #[] #[]] w λe w'=>e= .returned (.bool true)/\Keeps (λ_=>False) w w':=by
 have g1:=h1;have g2:=h2;obtain⟨ad1,c1,rfl,_,_⟩:=g1;obtain⟨ad2,c2,rfl,_,_⟩:=g2;obtain⟨H1,H2⟩:=hid2 h1 h2;clear h2 h1;go_enter Tryz.func127,Tryz.ntmps127;go_wp2
 go_loopw [7] (λi wr=>∃k:Nat,k<=L.length/\i= .int .i64 k/\Keeps (λ_=>False) w wr) (λi _=>L.length-(intOf i).toNat)
 case atStart=>exact⟨0,Nat.zero_le _,rfl,Keeps.refl _ _⟩
 case round=>
  obtain⟨k,hk,rfl,hkp⟩:=hrel;have Hkp:=Lib.hid hkp;clear hkp;by_cases hlt:k<L.length
  ·obtain⟨x,hx⟩:∃x,L[k]?=some x:=⟨L[k],List.getElem?_eq_getElem hlt⟩;obtain⟨g,o,c,he,hc⟩:=(H1.out.keeps Hkp.out (by simp)).elem Dk hx j7;obtain⟨g',o',c',he',hc'⟩:=(H2.out.keeps Hkp.out (by simp)).elem Dk hx j7;simp only [Value.slice.injEq,true_and] at he he';obtain⟨rfl,rfl⟩:=he;obtain⟨rfl,rfl⟩:=he';have x0:wr.cell? ⟨g,o+k,none⟩=some (.int .i64 x):=by have:=hc 0 j7;simpa [i64c] using this
   have y0:wr.cell? ⟨g',o'+k,none⟩=some (.int .i64 x):=by have:=hc' 0 j7;simpa [i64c] using this
   clear hc hc';have Hx:=Lib.hid hx;clear hx;go_wp2
   go_still_tail 9,j9
   go_wp2_with (go_at_call 128;refine(Tj _ _).mono ?_;rintro e w' ⟨rfl,rfl⟩)
   exact j4i
  ·exact j0T
theorem Nb(L:List Int)(v1 v2:Value)(w:World)(h1:Reads w 1 v1 L.length (L.flatMap i64c))(h2:Reads w 1 v2 L.length (L.flatMap i64c))(hl:L.length<=1000000000000):
  Calls Tryz.prog 70 #[v1,v2] w λe w'=>e= .returned (.bool true)/\Keeps (λ_=>False) w w':=by
 obtain⟨H1,H2⟩:=hid2 h1 h2;clear h2 h1;go_enter Tryz.func70,Tryz.ntmps70
 go_wp2_with (go_at_call 127;refine(Xq L _ _ _ H1.out H2.out hl).mono ?_;rintro e w' ⟨rfl,hk2⟩;have Hk2:=Lib.hid hk2;clear hk2)
 go_ret;exact⟨rfl,Hk2.out⟩
theorem Zy(s:Stm)(v1 v2:Value)(w:World)(h1:Reads w 3 v1 s.lines.length (s.lines.flatMap Ln.cells))(h2:Reads w 3 v2 s.lines.length (s.lines.flatMap Ln.cells))(hl:s.lines.length<=1000000000000):
  Calls Tryz.prog 47 #[s.val v1,s.val v2] w λe w'=>e= .returned (.bool true)/\Keeps (λ_=>False) w w':=by
 obtain⟨cy,fr,te,du,tot,cr,mi,gr,L⟩:=s;simp only [Stm.val] at *;have g1:=h1;have g2:=h2;obtain⟨ad1,c1,rfl,_,_⟩:=g1;obtain⟨ad2,c2,rfl,_,_⟩:=g2;obtain⟨H1,H2⟩:=hid2 h1 h2;clear h2 h1;go_enter Tryz.func47,Tryz.ntmps47
 go_wp2_with (go_at_call 93;refine(Ti L _ _ _ ((H1.out.alloc _).alloc _) ((H2.out.alloc _).alloc _) hl).mono ?_;rintro e w1 ⟨rfl,hk1⟩;have hb1:=Ad (Ar (heap_alloc_new w _) _) hk1 (by simp);have hb2:=Mr hk1 (by simp);simp only [World.size_alloc] at hb2;have xa:=Aa hb1;have xb:=Aa hb2;have xl1:=lt_of_block hb1;have xl2:=lt_of_block hb2;have Hk1:=Lib.hid hk1;clear hk1 hb1 hb2)
 exact j4j
theorem Zz(L:List Int)(n:Nat)(ad1 ad2:Option Addr)(c1 c2:Nat)(cr du:Int)(w:World)(hn:L.length=n)(h1:Reads w 1 (.slice ad1 n c1) n (L.flatMap i64c))(h2:Reads w 1 (.slice ad2 n c2) n (L.flatMap i64c))(hl:n<=1000000000000):
  Calls Tryz.prog 69 #[.agg #[.slice ad1 n c1,.int .i64 cr,.int .i64 du],.agg #[.slice ad2 n c2,.int .i64 cr,.int .i64 du]] w λe w'=>e= .returned (.bool true)/\Keeps (λ_=>False) w w':=by
 have hc:=λW (hW:Keeps (λ_=>False) w W)=>Nb L (.slice ad1 n c1) (.slice ad2 n c2) W (by rw [hn];exact h1.keeps hW (by simp)) (by rw [hn];exact h2.keeps hW (by simp)) j6;obtain⟨H1,H2,Hc,Hn⟩:=hid4 h1 h2 hc hn;clear hn hc h2 h1;go_enter Tryz.func69,Tryz.ntmps69
 go_wp2_with (go_at_call 70;(with_reducible refine(Hc.out _ ((Keeps.alloc _ _).Af)).mono ?_);rintro e w1 ⟨rfl,hk1⟩;have hb1:=Ad (Ar (heap_alloc_new w _) _) hk1 (by simp);have hb2:=Mr hk1 (by simp);simp only [World.size_alloc] at hb2;have xa:=Aa hb1;have xb:=Aa hb2;have xl1:=lt_of_block hb1;have xl2:=lt_of_block hb2;have Hk1:=Lib.hid hk1;clear hk1 hb1 hb2)
 exact j4j
def StL(a:Ac)(W:World)(td cy sq cr du:Int)(n m q:Nat)(e:Ending)(W':World):Prop:=∃a1 c1 a2 c2 a3 c3,e= .returned (.agg #[.int .i64 td,.int .i64 cy,.slice a1 n c1,.int .i64 cr,.int .i64 du,.slice a2 m c2,.slice a3 q c3,.int .i64 sq])/\
 W'.ownsRow 0 2 1 (.slice a1 n c1) n (a.s.p.bal.flatMap i64c)/\W'.ownsRow 0 2 1 (.slice a2 m c2) m (a.s.R.flatMap i64c)/\W'.ownsRow 0 132 5 (.slice a3 q c3) q (a.D.flatMap Disp.cells)/\Keeps (λ_=>False) W W'/\∀b,(Value.slice a1 n c1).ownBlock=some b\/(Value.slice a2 m c2).ownBlock=some b\/(Value.slice a3 q c3).ownBlock=some b->W.heap.size<=b
def acT9(B:Nat)(t:Tm)(vt:Value)(td:Int)(bl:Nat)(w:World):Prop:=tbS B t vt w/\w.cell? ⟨B,7,none⟩=some (.int .i64 td)/\w.cell? ⟨B,9,none⟩=some (.pointer (some ⟨bl,0,none⟩))
theorem acT9.of{w:World}{B:Nat}{x:AcV}{a:Ac}(h:AcAt w B x a):acT9 B a.t x.vt a.today x.bl w:=
 ⟨⟨Aa h.blk 0,Aa h.blk 1,Aa h.blk 2,Aa h.blk 3,Aa h.blk 4,Aa h.blk 5,Aa h.blk 6⟩,Aa h.blk 7,Aa h.blk 9⟩
def cy7S(B:Nat)(st cd td:Int)(w:World):Prop:=w.cell? ⟨B,6,none⟩=some (.int .i64 st)/\w.cell? ⟨B,2,none⟩=some (.int .i64 cd)/\w.cell? ⟨B,7,none⟩=some (.int .i64 td)
theorem te_arg{a:Ac}{d:Int}(h:d<1\/400<d):a.te d=1/\a.tc d=0/\a.tick d=a:=by
 have h1:a.te d=1:=by unfold Ac.te;rw [if_pos h]
 exact⟨h1,by unfold Ac.tc;rw [h1];simp,by unfold Ac.tick;rw [h1];simp⟩
theorem te_day{a:Ac}{d:Int}(h:¬(d<1\/400<d))(h2:¬ofE a.t.start a.t.cyc (a.today+d)=0):a.te d=10/\a.tc d=0/\a.tick d=a:=by
 have h1:a.te d=10:=by unfold Ac.te;rw [if_neg h,if_pos h2]
 exact⟨h1,by unfold Ac.tc;rw [h1];simp,by unfold Ac.tick;rw [h1];simp⟩
theorem te_run{a:Ac}{d:Int}(h:¬(d<1\/400<d))(h2:ofE a.t.start a.t.cyc (a.today+d)=0):a.te d=(a.tz d).2:=by
 unfold Ac.te;rw [if_neg h,if_neg j6]
theorem te_bad{a:Ac}{d:Int}(h:¬(d<1\/400<d))(h2:ofE a.t.start a.t.cyc (a.today+d)=0)(h3:¬(a.tz d).2=0):a.te d=(a.tz d).2/\a.tc d=0/\a.tick d=a:=by
 have h1:=te_run h h2;exact⟨h1,by unfold Ac.tc;rw [h1,if_neg (λe=>h3 e.1)],by unfold Ac.tick;rw [h1,if_neg h3]⟩
theorem te_ok{a:Ac}{d:Int}(h:¬(d<1\/400<d))(h2:ofE a.t.start a.t.cyc (a.today+d)=0)(h3:(a.tz d).2=0):a.te d=0/\a.tc d=(if a.s.out.length<(a.tz d).1.out.length then((a.tz d).1.out.length:Int) else 0)/\a.tick d={ a with today:=a.today+d,s:=(a.tz d).1,iss:=a.iss++(a.tz d).1.out.drop a.s.out.length,seq:=a.seq+1 }:=by
 have h1:a.te d=0:=(te_run h h2).trans h3;refine⟨h1, ?_,by unfold Ac.tick;rw [h1,if_pos rfl]⟩;unfold Ac.tc;rw [h1];by_cases h4:a.s.out.length<(a.tz d).1.out.length
 ·rw [if_pos ⟨rfl,h4⟩,if_pos h4]
 ·rw [if_neg (λe=>h4 e.2),if_neg h4]
def t12S(B:Nat)(vi vn:Value)(w:World):Prop:=w.cell? ⟨B,16,none⟩=some vi/\w.cell? ⟨B,15,none⟩=some vn
theorem t12S.of{w W:World}{B:Nat}{x:AcV}{a:Ac}(h:AcAt w B x a)(hk:Keeps (λ_=>False) w W):t12S B x.vi x.vn W:=by
 have hA:=h.keep0 hk;exact⟨Aa hA.blk 16,Aa hA.blk 15⟩
theorem drop_stms{w:World}{ao:Option Addr}{n2 co n1:Nat}{P:List SV}(h:StmsR w ao n2 co P)(hn:n1<=n2):StmsR w (if co=n1 then ao else Option.map (λx=>x.add (n1*9)) ao) (n2-n1) (co-n1) (P.drop n1):=by
 obtain⟨⟨ad,c,he,hnc,hl,hnone,hcells⟩,h2,h3,h4⟩:=h;simp only [Value.slice.injEq,true_and] at he;obtain⟨rfl,rfl⟩:=he;refine⟨⟨_,_,rfl,by omega, ?_,λhz=> ?_,λj u hj=> ?_⟩,λx hx=>h2 x (List.mem_of_mem_drop hx),λx hx=>h3 x (List.mem_of_mem_drop hx),by rw [List.length_drop,h4]⟩
 ·rw [Cm SV.Aj,List.length_drop,h4]
 ·by_cases hc:co=n1
  ·omega
  ·rw [if_neg hc] at hz;rw [Option.map_eq_none_iff] at hz;have:=hnone hz;omega
 ·rw [<-Km SV.Aj,List.getElem?_drop] at hj;obtain⟨g,o,rfl,hh⟩:=hcells _ _ hj;by_cases hc:co=n1
  ·have h5:n2=n1:=j8;have h6:=(List.getElem?_eq_some_iff.1 hj).1;rw [hl] at h6;exact absurd h6 (by rw [h5];omega)
  ·rw [if_neg hc];exact⟨g,o+n1*9,by rw [Option.map_some,Dx],by rw [Nat.add_assoc];exact hh⟩
theorem SV.one(L:List SV):∀u∈L.flatMap SV.cells,u.oneCell'=true:=by
 intro u hu;obtain⟨y,_,hy⟩:=List.mem_flatMap.1 hu;simp only [SV.cells,SV.v,List.mem_cons,List.not_mem_nil,or_false] at hy;rcases hy with rfl|rfl|rfl|rfl|rfl|rfl|rfl|rfl|rfl<;>simp [Value.oneCell']
theorem t12S.keepS{B:Nat}{vi vn:Value}{w w':World}{S:Nat->Prop}(h:t12S B vi vn w)(hk:Keeps S w w')(hS:¬S B):t12S B vi vn w':=⟨(hk.cell (Ah h.1) hS).trans h.1,(hk.cell (Ah h.2) hS).trans h.2⟩
theorem Ed.keep0{w0 W W':World}{n:Nat}{s:St}{vb vr vo:Value}{P:List SV}(g:Ed w0 n s vb vr vo P W)(hk:Keeps (λ_=>False) W W'):Ed w0 n s vb vr vo P W':=
 ⟨g.bal.of_keeps hk,g.rts.of_keeps hk,g.out.of_keeps hk,λx hx=>(g.ln x hx).of_keeps hk,g.lp,g.nb,g.nr,g.wb,g.wr,g.wo,g.wl,g.kp.nt hk⟩
def TkS(B:Nat)(x:AcV)(w W2:World)(i:Nat):Prop:=(i=B\/x.vi.ownBlock=some i)\/(w.heap.size<=i/\i<W2.heap.size)
theorem AcAt.ticked{w wc Wf W2:World}{B n M:Nat}{x:AcV}{a:Ac}{d:Int}{Z:St×Int}{vp vr vn vi:Value}{P Q:List SV}(h:AcAt w B x a)(hkc:Keeps (λ_=>False) w wc)(hk2:Keeps (λ_=>False) w W2)(hk2c:Keeps (λ_=>False) W2 wc)
  (hK:Keeps (TkS B x w W2) wc Wf) (_hN:a.t.trs.length=n) (hZ:walkR a.t a.L (a.today+d)=Z) (hz:Z.2=0) (g:Ed W2 n Z.1 vp vr vn P wc) (hmo:a.s.out.length<=Z.1.out.length) (hq:Q.map SV.s=Z.1.out.drop a.s.out.length)
  (hql:∀y∈Q,wc.ownsRow 0 160 3 y.v y.s.lines.length (y.s.lines.flatMap Ln.cells)) (hqf:∀y∈Q,∀b,y.v.ownBlock=some b->W2.heap.size<=b)
  (hb:Wf.heap[B]?=some (.cells #[.int .i64 a.t.limit,x.vt,.int .i64 a.t.cyc,.int .i64 a.t.due,.int .i64 a.t.minFixed,.int .i64 a.t.minPart,.int .i64 a.t.start,.int .i64 (a.today+d),.int .i64 (a.seq+1),(.pointer (some ⟨x.bl,0,none⟩)),(.pointer (some ⟨x.bb,0,none⟩)),vp,.int .i64 Z.1.p.cr,.int .i64 Z.1.p.du,vr,vn,vi,x.va] 136 (0,0)))
  (hri:Wf.ownsRow 0 60 9 vi (x.I++Q).length ((x.I++Q).flatMap SV.cells)) (hM1:wc.heap.size<=M) (hvi:∀b,vi.ownBlock=some b->x.vi.ownBlock=some b\/M<=b):
  Cf w B x { a with today:=a.today+d,s:=Z.1,iss:=a.iss++Z.1.out.drop a.s.out.length,seq:=a.seq+1 } Wf:=by
 have hA:=h.keep0 hkc;have hBl:=lt_of_block h.blk;have hvil:∀b,x.vi.ownBlock=some b->b<w.heap.size:=λb hb=>rowLt h.iss hb;have hsz:=hk2.size;have hszc:=hkc.size;have hsz2c:=hk2c.size;have hZ1:Z=(Z.1,0):=by rw [<-hz]
 have hnum:=h.ok.nums;obtain⟨o1,o2,_,_⟩:=Mh hZ hz
 have hok:AcOk { a with today:=a.today+d,s:=Z.1,iss:=a.iss++Z.1.out.drop a.s.out.length,seq:=a.seq+1 }:=by
  refine⟨by show walkR a.t a.L (a.today+d)=(Z.1,0);rw [hZ];exact hZ1, ?_,λy hy=> ?_, ?_,by have:=h.ok.s0;show 0<=a.seq+1;omega⟩
  ·show(a.iss++Z.1.out.drop a.s.out.length).length=Z.1.out.length;rw [List.length_append,List.length_drop,h.ok.il];omega
  ·have hy':y∈a.iss++Z.1.out.drop a.s.out.length:=hy;rcases List.mem_append.1 hy' with h1|h1
   ·exact h.ok.ill y h1
   ·exact o1 y (List.mem_of_mem_drop h1)
  ·have:=h.ok.aj;show(a.adj.length:Int)<=301000*(a.seq+1);omega
 have nw:∀b,W2.heap.size<=b->¬TkS B x w W2 b:=λb hb e=>by
  rcases e with(e|e)|⟨_,e⟩
  ·omega
  ·have:=hvil b e;omega
  ·omega
 have hold:∀b,x.rd b->¬TkS B x w W2 b:=λb hb e=>by
  rcases e with e|⟨e,_⟩
  ·exact h.sep b hb (e.elim .inl λe=> .inr (.inl e))
  ·have:=h.lt b (.inr hb);omega
 have hrd:∀b,AcV.rd ({ x with vp:=vp,vr:=vr,vn:=vn,vi:=vi,P:=P,I:=x.I++Q }:AcV) b->x.rd b\/(w.heap.size<=b/\b<M):=by
  rintro b (hb|hb|hb|hb|hb|hb|hb|hb|⟨y,hy,hb⟩|⟨y,hy,hb⟩)
  ·exact .inl (.inl hb)
  ·have:=g.wb b hb;have:=rowLt g.bal hb;exact .inr ⟨by omega,by omega⟩
  ·have:=g.wr b hb;have:=rowLt g.rts hb;exact .inr ⟨by omega,by omega⟩
  ·have:=g.wo b hb;have:=rowLt g.out hb;exact .inr ⟨by omega,by omega⟩
  ·exact .inl (.inr (.inr (.inr (.inr (.inl hb)))))
  ·exact j1W
  ·exact .inl (.inr (.inr (.inr (.inr (.inr (.inr (.inl hb)))))))
  ·exact .inl (.inr (.inr (.inr (.inr (.inr (.inr (.inr (.inl hb))))))))
  ·have:=g.wl y hy b hb;have:=rowLt (g.ln y hy) hb;exact .inr ⟨by omega,by omega⟩
  ·rcases List.mem_append.1 hy with h1|h1
   ·exact .inl (.inr (.inr (.inr (.inr (.inr (.inr (.inr (.inr (.inr ⟨y,h1,hb⟩)))))))))
   ·have:=hqf y h1 b hb;have:=rowLt (hql y h1) hb;exact .inr ⟨by omega,by omega⟩
 have haf:∀b,AcF B ({ x with vp:=vp,vr:=vr,vn:=vn,vi:=vi,P:=P,I:=x.I++Q }:AcV) b->AcF B x b\/M<=b:=by
  rintro b (hb|hb|hb)
  ·exact .inl (.inl hb)
  ·exact(hvi b hb).imp (λe=> .inr (.inl e)) id
  ·exact .inl (.inr (.inr hb))
 have hKF:=(hkc.mono (T:=AcF B x) (by simp)).trans (hK.mono λi _ e=>e.elim (λe=> .inl (e.elim .inl λe=> .inr (.inl e))) λe=> .inr e.1)
 obtain⟨h1,h2⟩:=AcAt.build (x':={ x with vp:=vp,vr:=vr,vn:=vn,vi:=vi,P:=P,I:=x.I++Q }) (a':={ a with today:=a.today+d,s:=Z.1,iss:=a.iss++Z.1.out.drop a.s.out.length,seq:=a.seq+1 }) h M j6 hKF rfl rfl hb
  (hA.dl.keepS hK (hold _ (.inr (.inr (.inr (.inr (.inl rfl)))))) (λb hb=>hold b (.inr (.inr (.inr (.inr (.inr (.inl hb))))))) (λb hb=>hold b (.inr (.inr (.inr (.inr (.inr (.inr (.inl hb)))))))))
  (hA.bk.keeps hK λb hb=>hold b (.inr (.inr (.inr (.inr (.inr (.inr (.inr (.inl hb)))))))))
  j49 j4a (hK.row g.out λb hb=>nw b (g.wo b hb)) (λy hy=>hK.row (g.ln y hy) λb hb=>nw b (g.wl y hy b hb)) g.lp
  hri (λy hy=>by
   rcases List.mem_append.1 hy with h1|h1
   ·exact hK.row (hA.iln y h1) λb hb=>hold b (.inr (.inr (.inr (.inr (.inr (.inr (.inr (.inr (.inr ⟨y,h1,hb⟩)))))))))
   ·exact hK.row (hql y h1) λb hb=>nw b (hqf y h1 b hb)) (by rw [List.map_append,hA.is,hq]) (hK.row hA.adj λb hb e=>by
   rcases e with(e|e)|⟨e,_⟩
   ·exact h.sa b hb e
   ·exact h.si b e (.inr hb)
   ·have:=rowLt h.adj hb;omega) hok hrd haf
 exact⟨_,h1,hKF,h2⟩
def Uv(a:Ac)(d:Int)(w:World)(B:Nat)(x:AcV)(e:Ending)(w':World):Prop:=e= .returned (.agg #[.int .i64 (a.te d),.int .i64 0,.int .i64 (a.tc d),.int .i64 0,.int .i64 0,.slice none 0 0,.int .i64 0,.int .i64 0,.slice none 0 0,.slice none 0 0,.int .i64 0,.int .i64 0,.int .i64 0,.int .i64 0,.int .i64 0,.slice none 0 0,.int .i64 0,.int .i64 0,.int .i64 0,.bool false])/\Cf w B x (a.tick d) w'
theorem Abr(B:Nat)(x:AcV)(a:Ac)(d:Int)(w:World)(h:AcAt w B x a)(hd:d<1\/400<d):Calls Tryz.prog 78 #[(.pointer (some ⟨B,0,none⟩)),.int .i64 d] w (Uv a d w B x):=by
 by_cases h1:d<1
 ·exact j4k
 ·have h2:400<d:=j8;exact j4k
theorem Abs(B:Nat)(x:AcV)(a:Ac)(d:Int)(w:World)(h:AcAt w B x a)(hs:a.seq<=100000)(hmo:a.te d=0->a.s.out.length<=(a.tz d).1.out.length):Calls Tryz.prog 78 #[(.pointer (some ⟨B,0,none⟩)),.int .i64 d] w (Uv a d w B x):=by
 by_cases hd:d<1\/400<d
 ·exact Abr B x a d w h hd
 obtain⟨i0,hi,hi0,hi1,hi2⟩:=info_parts Mq;have hn:=h.ok.nums;have hd1:¬d<1:=j8;have hd2:¬400<d:=j8;obtain⟨W0,hW0⟩:∃x,x=w.alloc (.cells #[.int .i64 0,.int .i64 0,.int .i64 0,.int .i64 0,.int .i64 0,.slice none 0 0,.int .i64 0,.int .i64 0,.slice none 0 0,.slice none 0 0,.int .i64 0,.int .i64 0,.int .i64 0,.int .i64 0,.int .i64 0,.slice none 0 0,.int .i64 0,.int .i64 0,.int .i64 0,.bool false] 62):=⟨_,rfl⟩;have hb0:W0.heap[w.heap.size]?=some (.cells #[.int .i64 0,.int .i64 0,.int .i64 0,.int .i64 0,.int .i64 0,.slice none 0 0,.int .i64 0,.int .i64 0,.slice none 0 0,.slice none 0 0,.int .i64 0,.int .i64 0,.int .i64 0,.int .i64 0,.int .i64 0,.slice none 0 0,.int .i64 0,.int .i64 0,.int .i64 0,.bool false] 62 (0,0)):=by rw [hW0];exact heap_alloc_new w _
 have hk0:Keeps (λ_=>False) w W0:=by rw [hW0];exact Keeps.alloc _ _
 obtain⟨st,hst⟩:∃s,a.t.start=s:=⟨_,rfl⟩;obtain⟨cd,hcd⟩:∃s,a.t.cyc=s:=⟨_,rfl⟩;obtain⟨td,htd⟩:∃s,a.today=s:=⟨_,rfl⟩;have td0: -135140<=td:=by have:=hn.ds;have:=hn.d0;omega
 have td1:td<=2932896:=by have:=hn.d1;omega
 have hcy:=λW=>Qk st cd (td+d) W ⟨by have:=hn.ds;omega,by have:=hn.d0;have:=hn.d1;omega⟩;obtain⟨z1,hz1⟩:∃z,ofE st cd (td+d)=z:=⟨_,rfl⟩;obtain⟨y1,hy1⟩:∃z,ofV st cd (td+d)=z:=⟨_,rfl⟩;rw [hz1,hy1] at hcy
 have hcS:∀W,Keeps (λ_=>False) w W->cy7S B st cd td W:=λW hW=>by
  have hA:=h.keep0 hW;exact⟨by rw [<-hst];exact Aa hA.blk 6,by rw [<-hcd];exact Aa hA.blk 2,by rw [<-htd];exact Aa hA.blk 7⟩
 have q1:IntKind.i64.wrap (td+d)=td+d:=IntWalk.i64_in _ ⟨by omega,by omega⟩;have HBl:=Lib.hid (lt_of_block h.blk);have hbl:=lt_of_block h.blk;obtain⟨H,Hn,Hb0,Hk0,Hcy,Hz1,Hy1,HcS,Hst⟩:=hid9 h hn hb0 hk0 hcy hz1 hy1 hcS hst;clear hst hcS hy1 hz1 hcy hk0 hb0 hn h;obtain⟨Hcd,Htd,Hmo,Hd,Hi,Hi0,Hi1,Hi2⟩:=hid8 hcd htd hmo hd hi hi0 hi1 hi2;clear hi2 hi1 hi0 hi hd hmo htd hcd;go_enter Tryz.func78,Tryz.ntmps78
 go_upto_region 3 with fail
 rw [<-hW0];clear hW0;refine Al (cy7S B st cd td) (.take 0 (.take 1 (.take 2 (.take 3 (.take 4 (.take 5 (.take 6 (.take 7 (.take 8 (.take 9 (.take 10 (.take 11 (.take 12 (.take 13 (.take 14 (.take 15 (.move 16 (.take 17 (.take 18 (.take 19 (.take 20 (.take 21 .done)))))))))))))))))))))) j9 j9 ?_ ?_
 ·exact HcS.out _ (Hk0.out.nt (Keeps.drew _))
 intro w1 hs1 hk1;refine je ?_;intro K hK
 go_at_call 131
 ((with_reducible refine(Hcy.out w1).mono ?_);rintro e w2 ⟨rfl,hk2⟩;dsimp only)
 have hk02:=Keeps.nt (Keeps.nt Hk0.out hk1) hk2;refine hK.out _ _ (by exact HcS.out _ hk02) ?_;clear hK K;refine ja ?_;have hb2:=Ad (Ad Hb0.out hk1 (by simp)) hk2 (by simp);clear hs1 hk1 hk2;obtain⟨Hk02,Hb2⟩:=hid2 hk02 hb2;clear hb2 hk02;refine jn ?_;by_cases h0:z1=0
 ·subst h0;have hofz:ofE a.t.start a.t.cyc (a.today+d)=0:=by rw [Hst.out,Hcd.out,Htd.out,Hz1.out]
  have hkw2:=Hk02.out;obtain⟨n,hN⟩:∃n,a.t.trs.length=n:=⟨_,rfl⟩;obtain⟨Z,hZ⟩:∃Z,walkR a.t a.L (a.today+d)=Z:=⟨_,rfl⟩;have hcz:a.tz d=Z:=hZ;obtain⟨adt,ct,hvt,_,_⟩:=Ae H.out.trs;have hrt:=Reads.Az H.out.trs;rw [hN] at hvt hrt;obtain⟨t,ht⟩:∃t,a.t=t:=⟨_,rfl⟩;obtain⟨L1,hL1⟩:∃L,a.L=L:=⟨_,rfl⟩;have hL1l:L1.length<=3000:=by rw [<-hL1];have:=Hn.out.ll;omega
  rw [ht,hL1,Htd.out] at hZ;rw [ht] at hN hrt;rw [hvt] at hrt;have hdl2:=H.out.dl.keep hkw2;rw [ht,hL1] at hdl2;obtain⟨B1,hB1⟩:∃b,x.bl=b:=⟨_,rfl⟩;rw [hB1] at hdl2;have hall:=λW (hW:Keeps (λ_=>False) w2 W)=>Uh B1 t x.vtl x.vl L1 W (hdl2.keep hW) j6;have hrun:=λW (hW:Keeps (λ_=>False) w2 W) ad c (hr:Reads W 5 (.slice ad L1.length c) L1.length (L1.flatMap Ev.cells))=>Nt t adt ct n L1 ad c L1.length (td+d) W hN (hrt.keeps (hkw2.nt hW) (by simp)) rfl hr j6 (by have:=Hn.out.n8;rw [ht,hN] at this;omega);rw [hZ] at hrun;have hSk:∀W,Keeps (λ_=>False) w2 W->acT9 B t (.slice adt n ct) td B1 W:=λW hW=>by have:=acT9.of (H.out.keep0 (hkw2.nt hW));rw [ht,Htd.out,hvt,hB1] at this;exact this
  obtain⟨W2,hW2⟩:∃W,W=w2:=⟨_,rfl⟩;subst hW2;have HBl2:=Lib.hid (Nat.lt_of_lt_of_le HBl.out hkw2.size);clear HBl;have HBl:=HBl2;clear HBl2;obtain⟨Hkw2,Hdl2,HL1,HL1l,HN,HZ,Hvt,Hrt,Ht⟩:=hid9 hkw2 hdl2 hL1 hL1l hN hZ hvt hrt ht;clear ht hrt hvt hZ hN hL1l hL1 hdl2 hkw2;obtain⟨Hall,Hrun,HSk,Hcz,Hofz,HB1⟩:=hid6 hall hrun hSk hcz hofz hB1;clear hB1 hofz hcz hSk hrun hall
  go_upto_region 6 with fail
  go_cut [7,8,9,10] (λp r q z wx=>CnRun W2 n Z p r q z wx)
  case first=>
   refine Al (acT9 B t (.slice adt n ct) td B1) (.take 0 (.take 1 (.take 2 (.take 3 (.take 4 (.take 5 (.take 6 (.take 7 (.take 9 (.take 10 (.take 11 (.take 12 (.take 13 (.take 14 (.fork 8 (.fork 15 (.take 16 (.take 17 (.take 18 (.take 19 (.take 20 (.move 21 (.move 22 (.take 23 (.take 24 (.take 25 .done)))))))))) 21 (.move 15 (.take 16 (.take 17 (.take 18 (.take 19 (.take 20 (.move 22 (.take 23 (.take 24 (.take 25 .done))))))))))) 21 (.move 8 (.move 15 (.take 16 (.take 17 (.take 18 (.take 19 (.take 20 (.move 22 (.take 23 (.take 24 (.take 25 .done)))))))))))))))))))))))))) j9 j9 ?_ ?_
   ·exact HSk.out _ (Keeps.drew _)
   intro w3 hs3 hk3;refine jx ?_;refine Dn ?_ ?_ (HSk.out _ hk3)
   ·skip
    refine jc ?_;intro K hK
    go_at_call 96
    ((with_reducible refine(Hall.out w3 hk3).mono ?_);rintro e w4 hg)
    obtain⟨v',rfl,hrd,hkg,hng⟩:=hg;obtain⟨ae,ce,rfl,_⟩:=id hrd;dsimp only;have hkn:Keeps (λ_=>False) W2 w4:=Keeps.nt hk3 hkg;refine hK.out _ _ j0W ?_;clear hK K;refine ja ?_;refine jx ?_;refine Dn ?_ ?_ (HSk.out _ hkn)
    ·skip
     refine jc ?_;intro K hK
     go_at_call 108
     ((with_reducible refine(Hrun.out w4 hkn ae ce hrd).mono ?_);intro e w5 hpo)
     obtain⟨vb2,cr2,du2,vr2,vo2,z2,rfl,hi2,hk7,a2,n2,c2,rfl⟩:=Qg hpo;clear hpo;refine j0X ?_;intro hkr;clear hK K;refine ja ?_;refine jx ?_;obtain⟨w8,hw8⟩:∃x,x=(w5).alloc (.cells #[.slice none 0 0,.int .i64 0,.int .i64 0] 52):=⟨_,rfl⟩;obtain⟨b7,hb7⟩:∃x,x=(w5).heap.size:=⟨_,rfl⟩;have hkA:Keeps (λ_=>False) w5 w8:=by rw [hw8];exact Keeps.alloc _ _
     have hz8:(w8).heap[b7]?=some (.cells #[.slice none 0 0,.int .i64 0,.int .i64 0] 52 (0,0)):=by rw [hw8,hb7];exact heap_alloc_new _ _
     have hb7l:W2.heap.size<=b7:=by rw [hb7];exact(hkr).size
     have hka8:Keeps (λ_=>False) W2 w8:=Keeps.nt hkr hkA;have hb7B:¬B=b7:=λe=>by have:=HBl.out;omega
     have hb7w:(w5).heap.size<=b7:=by rw [hb7];exact Nat.le_refl _
     refine jc ?_;intro K hK;rw [<-hw8,<-hb7];clear hw8 hb7;refine j09 ?_;clear hK K;refine ja ?_;refine jx ?_;refine j4b ?_;intro hlz z0 z1 z2' zf0 zf1 zf2 hbz hkz hk4z hrel;exact j1Z
    ·skip
     obtain⟨w8,hw8⟩:∃x,x=(w4).alloc (.cells #[.slice none 0 0,.int .i64 0,.int .i64 0] 52):=⟨_,rfl⟩;obtain⟨b7,hb7⟩:∃x,x=(w4).heap.size:=⟨_,rfl⟩;have hkA:Keeps (λ_=>False) w4 w8:=by rw [hw8];exact Keeps.alloc _ _
     have hz8:(w8).heap[b7]?=some (.cells #[.slice none 0 0,.int .i64 0,.int .i64 0] 52 (0,0)):=by rw [hw8,hb7];exact heap_alloc_new _ _
     have hb7l:W2.heap.size<=b7:=by rw [hb7];exact(hkn).size
     have hka8:Keeps (λ_=>False) W2 w8:=Keeps.nt hkn hkA;have hb7B:¬B=b7:=λe=>by have:=HBl.out;omega
     have hb7w:(w4).heap.size<=b7:=by rw [hb7];exact Nat.le_refl _
     refine jc ?_;intro K hK;rw [<-hw8,<-hb7];clear hw8 hb7;refine j09 ?_;clear hK K;refine ja ?_;refine jx ?_;have hrd8:=hrd.keeps hkA (by simp);refine jc ?_;intro K hK
     go_at_call 108
     ((with_reducible refine(Hrun.out w8 hka8 ae ce hrd8).mono ?_);intro e w5 hpo)
     obtain⟨vb2,cr2,du2,vr2,vo2,z2,rfl,hi2,hk7,a2,n2,c2,rfl⟩:=Qg hpo;clear hpo;dsimp only;have hkr:Keeps (λ_=>False) W2 w5:=Keeps.nt hka8 hk7;refine hK.out _ _ (by exact HSk.out _ hkr) ?_;clear hK K;refine ja ?_;have hz5:=Ad hz8 hk7 (by simp);have hl8:=lt_of_block hz8;refine jx ?_;refine j0Y ?_;intro hlz z0 z1 z2' zf0 zf1 zf2 hbz hkz hk4z;refine j4c ?_;intro hrel;exact j1Z
   ·skip
    obtain⟨w8,hw8⟩:∃x,x=(w3).alloc (.cells #[.slice none 0 0,.int .i64 0,.int .i64 0] 52):=⟨_,rfl⟩;obtain⟨b7,hb7⟩:∃x,x=(w3).heap.size:=⟨_,rfl⟩;have hkA:Keeps (λ_=>False) w3 w8:=by rw [hw8];exact Keeps.alloc _ _
    have hz8:(w8).heap[b7]?=some (.cells #[.slice none 0 0,.int .i64 0,.int .i64 0] 52 (0,0)):=by rw [hw8,hb7];exact heap_alloc_new _ _
    have hb7l:W2.heap.size<=b7:=by rw [hb7];exact(hk3).size
    have hka8:Keeps (λ_=>False) W2 w8:=Keeps.nt hk3 hkA;have hb7B:¬B=b7:=λe=>by have:=HBl.out;omega
    have hb7w:(w3).heap.size<=b7:=by rw [hb7];exact Nat.le_refl _
    refine jc ?_;intro K hK;rw [<-hw8,<-hb7];clear hw8 hb7;refine j09 ?_;clear hK K;refine ja ?_;refine jx ?_;refine jc ?_;intro K hK
    go_at_call 96
    ((with_reducible refine(Hall.out w8 hka8).mono ?_);rintro e w4 hg)
    obtain⟨v',rfl,hrd,hkg,hng⟩:=hg;obtain⟨ae,ce,rfl,_⟩:=id hrd;dsimp only;have hkn:Keeps (λ_=>False) W2 w4:=Keeps.nt hka8 hkg;refine hK.out _ _ j0W ?_;clear hK K;refine ja ?_;have hz4:=Ad hz8 hkg (by simp);have hl4:=lt_of_block hz4;refine jx ?_;refine jc ?_;intro K hK
    go_at_call 108
    ((with_reducible refine(Hrun.out w4 hkn ae ce hrd).mono ?_);intro e w5 hpo)
    obtain⟨vb2,cr2,du2,vr2,vo2,z2,rfl,hi2,hk7,a2,n2,c2,rfl⟩:=Qg hpo;clear hpo;refine j0X ?_;intro hkr;clear hK K;refine ja ?_;have hz5:=Ad hz4 hk7 (by simp);refine jx ?_;refine j0Y ?_;intro hlz z0 z1 z2' zf0 zf1 zf2 hbz hkz hk4z;refine j4d ?_;intro hrel;exact j1Z
  obtain⟨b7,vb,vr,vo,cr,du,zz,rfl,rfl,rfl,rfl,hb7,hk7,hbx7,hi7,av,mv,cv,rfl⟩:=hcut;obtain⟨W7,hW7⟩:∃x,x=wc:=⟨_,rfl⟩;subst hW7;have hkw7:=Hkw2.out.nt hk7;have hb7':=Ad Hb2.out hk7 (by simp);clear q1
  cases hi7 with
  |bad hz7=>
   obtain⟨zz,hzz⟩:∃zz,Z.2=zz:=⟨_,rfl⟩;rw [hzz] at hz7⊢;have hne:(zz !=0)=true:=by simp [hz7]
   have hc:=te_bad (a:=a) Hd.out Hofz.out (by rw [Hcz.out,hzz];exact hz7);rw [Hcz.out,hzz] at hc;obtain⟨Hzz,Hz7,Hc,Hkw7,Hk7,Hbx7,Hb7'⟩:=hid7 hzz hz7 hc hkw7 hk7 hbx7 hb7';clear hb7' hbx7 hk7 hkw7 hc hz7 hzz;go_wp2_with fail;refine(Dy zz _).mono ?_;rintro e w8 ⟨rfl,hk8⟩;have hb8:=Ad Hb7'.out hk8 (by simp);have hk08:=Hkw7.out.nt hk8;clear hk8;obtain⟨Hb8,Hk08⟩:=hid2 hb8 hk08;clear hk08 hb8;obtain⟨hput1,hput2⟩:=putRow (V:= #[.int .i64 zz,.int .i64 0,.int .i64 0,.int .i64 0,.int .i64 0,.slice none 0 0,.int .i64 0,.int .i64 0,.slice none 0 0,.slice none 0 0,.int .i64 0,.int .i64 0,.int .i64 0,.int .i64 0,.int .i64 0,.slice none 0 0,.int .i64 0,.int .i64 0,.int .i64 0,.bool false]) Hb8.out Hk08.out (Nat.le_refl _);obtain⟨Hput1,Hput2⟩:=hid2 hput1 hput2;clear hput2 hput1
   go_wp2_with (refine wpList_store_row rfl 62 (.tmp 4) (.tmp 66) rfl w.heap.size #[.int .i64 zz,.int .i64 0,.int .i64 0,.int .i64 0,.int .i64 0,.slice none 0 0,.int .i64 0,.int .i64 0,.slice none 0 0,.slice none 0 0,.int .i64 0,.int .i64 0,.int .i64 0,.int .i64 0,.int .i64 0,.slice none 0 0,.int .i64 0,.int .i64 0,.int .i64 0,.bool false] rfl rfl 62 #[.int .i64 0,.int .i64 0,.int .i64 0,.int .i64 0,.int .i64 0,.slice none 0 0,.int .i64 0,.int .i64 0,.slice none 0 0,.slice none 0 0,.int .i64 0,.int .i64 0,.int .i64 0,.int .i64 0,.int .i64 0,.slice none 0 0,.int .i64 0,.int .i64 0,.int .i64 0,.bool false] Hb8.out Aw rfl (Dr zz 0 0) ?_)
   exact bodyPost_ret (results_cell_row rfl _ _ w.heap.size 62 #[.int .i64 zz,.int .i64 0,.int .i64 0,.int .i64 0,.int .i64 0,.slice none 0 0,.int .i64 0,.int .i64 0,.slice none 0 0,.slice none 0 0,.int .i64 0,.int .i64 0,.int .i64 0,.int .i64 0,.int .i64 0,.slice none 0 0,.int .i64 0,.int .i64 0,.int .i64 0,.bool false] _ _ rfl Hput1.out Tryz.underlying62 rfl Aw) rfl ⟨by rw [Hc.out.1,Hc.out.2.1],by rw [Hc.out.2.2];exact Cf.same H.out Hput2.out⟩
  | @ok _ _ _ P hz7 g=>
   have hA:=H.out.keep0 hkw7;obtain⟨hte,htc,htk⟩:=te_ok (a:=a) Hd.out Hofz.out (by rw [Hcz.out];exact hz7);have hmo:=Hmo.out hte;rw [Hcz.out] at htc htk hmo;obtain⟨adn,cn,hvn,hstm,hPl⟩:=hA.stmN;obtain⟨ao,co,rfl,hco,hao⟩:=Ae g.out;obtain⟨ar,cr2,rfl,_,_⟩:=Ae g.rts;obtain⟨o1,o2,_,_⟩:=Mh HZ.out hz7;obtain⟨n1,hn1⟩:∃n,x.P.length=n:=⟨_,rfl⟩;obtain⟨n2,hn2⟩:∃n,P.length=n:=⟨_,rfl⟩;have hn1':a.s.out.length=n1:=by rw [<-hn1,<-H.out.ns,List.length_map]
   have hn2':Z.1.out.length=n2:=by rw [<-hn2,<-g.lp,List.length_map]
   rw [hn1',hn2'] at hmo htc;rw [hn2];rw [hn1] at hvn hPl;rw [hn2] at hco
   have hll:∀y∈P,y.s.lines.length<=1000:=λy hy=>by
    exact j4e
   have hn2l:n2<=300:=by rw [<-hn2'];exact o2
   obtain⟨tcv,htcv⟩:∃z,a.tc d=z:=⟨_,rfl⟩;rw [htcv] at htc;obtain⟨w8,hw8⟩:∃W,W=(W7.alloc (.cells #[.int .i64 0,.int .i64 0,.int .i64 0,.int .i64 0,.int .i64 0,.slice none 0 0,.int .i64 0,.int .i64 0,.slice none 0 0,.slice none 0 0,.int .i64 0,.int .i64 0,.int .i64 0,.int .i64 0,.int .i64 0,.slice none 0 0,.int .i64 0,.int .i64 0,.int .i64 0,.bool false] 62)).setRow W7.heap.size #[.int .i64 0,.int .i64 0,.int .i64 0,.int .i64 0,.int .i64 0,.slice none 0 0,.int .i64 0,.int .i64 0,.slice none 0 0,.slice none 0 0,.int .i64 0,.int .i64 0,.int .i64 0,.int .i64 0,.int .i64 0,.slice none 0 0,.int .i64 0,.int .i64 0,.int .i64 0,.bool false]:=⟨_,rfl⟩;obtain⟨b11,hb11⟩:∃b,b=W7.heap.size:=⟨_,rfl⟩;have hb11l:W7.heap.size<=b11:=by rw [hb11];exact Nat.le_refl _
   have hk8:Keeps (λ_=>False) W7 w8:=by rw [hw8];exact(Keeps.alloc (S:=λ_=>False) W7 (.cells #[.int .i64 0,.int .i64 0,.int .i64 0,.int .i64 0,.int .i64 0,.slice none 0 0,.int .i64 0,.int .i64 0,.slice none 0 0,.slice none 0 0,.int .i64 0,.int .i64 0,.int .i64 0,.int .i64 0,.int .i64 0,.slice none 0 0,.int .i64 0,.int .i64 0,.int .i64 0,.bool false] 62)).trans ((Co _ _ _).mono λi _ e=> .inr (by have e':i=W7.heap.size:=e;omega))
   have c15:w8.cell? ⟨B,15,none⟩=some (.slice adn n1 cn):=by rw [<-hvn];exact Aa (hA.keep0 hk8).blk 15
   have hblc:=lt_of_block (hA.keep0 hk8).blk;have hbx8:w8.heap[b11]?=some (.cells #[.int .i64 0,.int .i64 0,.int .i64 0,.int .i64 0,.int .i64 0,.slice none 0 0,.int .i64 0,.int .i64 0,.slice none 0 0,.slice none 0 0,.int .i64 0,.int .i64 0,.int .i64 0,.int .i64 0,.int .i64 0,.slice none 0 0,.int .i64 0,.int .i64 0,.int .i64 0,.bool false] 62 (0,0)):=by rw [hw8,hb11];exact setRow_heap _ _ _ _ _ _ (heap_alloc_new W7 (.cells #[.int .i64 0,.int .i64 0,.int .i64 0,.int .i64 0,.int .i64 0,.slice none 0 0,.int .i64 0,.int .i64 0,.slice none 0 0,.slice none 0 0,.int .i64 0,.int .i64 0,.int .i64 0,.int .i64 0,.int .i64 0,.slice none 0 0,.int .i64 0,.int .i64 0,.int .i64 0,.bool false] 62))
   obtain⟨Hz7,Hk7,Hbx7,Hkw7,Hb7',G,HA,Hte,Htk⟩:=hid9 hz7 hk7 hbx7 hkw7 hb7' g hA hte htk;clear htk hte hA g hb7' hkw7 hbx7 hk7 hz7;obtain⟨Hvn,Hstm,Hn1,Hn2,Hn1',Hn2',Hll,Htcv,Hk8⟩:=hid9 hvn hstm hn1 hn2 hn1' hn2' hll htcv hk8;clear hk8 htcv hll hn2' hn1' hn2 hn1 hstm hvn;obtain⟨Hbx8,O1,Hao⟩:=hid3 hbx8 o1 hao;clear hao o1 hbx8
   go_upto_if 75 with(refine wpList_store_row rfl 62 (.tmp 11) (.tmp 67) rfl W7.heap.size #[.int .i64 0,.int .i64 0,.int .i64 0,.int .i64 0,.int .i64 0,.slice none 0 0,.int .i64 0,.int .i64 0,.slice none 0 0,.slice none 0 0,.int .i64 0,.int .i64 0,.int .i64 0,.int .i64 0,.int .i64 0,.slice none 0 0,.int .i64 0,.int .i64 0,.int .i64 0,.bool false] rfl rfl 62 #[.int .i64 0,.int .i64 0,.int .i64 0,.int .i64 0,.int .i64 0,.slice none 0 0,.int .i64 0,.int .i64 0,.slice none 0 0,.slice none 0 0,.int .i64 0,.int .i64 0,.int .i64 0,.int .i64 0,.int .i64 0,.slice none 0 0,.int .i64 0,.int .i64 0,.int .i64 0,.bool false] (heap_alloc_new W7 _) Aw rfl (Dr 0 0 0) ?_;rw [<-hw8,<-hb11];clear hw8 hb11)
   go_cut [11] (λp wx=>p=(.pointer (some ⟨b11,0,none⟩))/\wx.heap[b11]?=some (.cells #[.int .i64 0,.int .i64 0,.int .i64 tcv,.int .i64 0,.int .i64 0,.slice none 0 0,.int .i64 0,.int .i64 0,.slice none 0 0,.slice none 0 0,.int .i64 0,.int .i64 0,.int .i64 0,.int .i64 0,.int .i64 0,.slice none 0 0,.int .i64 0,.int .i64 0,.int .i64 0,.bool false] 62 (0,0))/\Keeps (λ_=>False) W7 wx)
   case first=>
    by_cases hlt:n1<n2
    ·have hltI:(n1:Int)<(n2:Int):=j8;rw [if_pos hlt] at htc;subst htc;have x2:=Aa Hbx8.out 2;have y2:=Ab Hbx8.out 2;have xl:=lt_of_block Hbx8.out;have hz9:=(heap_setCell_same _ _ 2 _ _ (.int .i64 (n2:Int)) Hbx8.out).trans rfl;have hk9:Keeps (λ_=>False) W7 (w8.setCell ⟨b11,2,none⟩ (.int .i64 (n2:Int))):=Hk8.out.trans ((Keeps.setCell (S:=λi=>i=b11) _ _ _ rfl).mono λi _ e=> .inr (by have e':i=b11:=e;omega));obtain⟨Hz9,Hk9⟩:=hid2 hz9 hk9;clear hk9 hz9;go_wp2_with fail;go_meet;exact⟨by first|rfl|trivial,Hz9.out,Hk9.out⟩
    ·have hltI:¬(n1:Int)<(n2:Int):=j8;rw [if_neg hlt] at htc;subst htc;go_wp2_with fail;go_meet;exact⟨by first|rfl|trivial,Hbx8.out,Hk8.out⟩
   have Htc:=Lib.hid htc;clear htc;obtain⟨rfl,hbxz,hkz⟩:=hcut;have hA2:=HA.out.keep0 hkz;obtain⟨nI,hnI⟩:∃n,x.I.length=n:=⟨_,rfl⟩;obtain⟨ai,ci,hvi,_,_⟩:=Ae H.out.iss;rw [hnI] at hvi
   have hnI1:nI<=300:=by
    have:nI=n1:=by rw [<-hnI,<-Hn1'.out,<-H.out.ok.il,<-H.out.is,List.length_map]
    omega
   have htS:∀W,Keeps (λ_=>False) wc W->t12S B (.slice ai nI ci) (.slice adn n1 cn) W:=λW hW=>by
    have:=t12S.of hA2 hW;rw [hvi,Hvn.out] at this;exact this
   have hbl2:=lt_of_block hA2.blk;clear c15 hblc;have hvi':=hvi;obtain⟨Hbxz,Hkz,HA2,HnI,Hvi,HtS⟩:=hid6 hbxz hkz hA2 hnI hvi htS;clear htS hvi hnI hA2 hkz hbxz;obtain⟨ad9,had9⟩:∃x,x=(if co=n1 then ao else Option.map (λx=>x.add (n1*9)) ao):=⟨_,rfl⟩
   have hst9:StmsR wc ad9 (n2-n1) (co-n1) (P.drop n1):=by
    rw [had9];exact drop_stms (⟨by rw [<-Hn2.out];exact(Reads.Az G.out.out).keeps Hkz.out (by simp),λy hy=>(Reads.Az (G.out.ln y hy)).keeps Hkz.out (by simp),Hll.out,Hn2.out⟩:StmsR wc ao n2 co P) hmo
   have hown:=λW (hW:Keeps (λ_=>False) wc W)=>Adf ad9 (co-n1) (n2-n1) (P.drop n1) W (hst9.keep hW) j6;obtain⟨Hst9,Hown⟩:=hid2 hst9 hown;clear hown hst9
   go_upto_region 12 with fail
   refine Cw (t12S B (.slice ai nI ci) (.slice adn n1 cn)) 16 (.take 0 (.take 1 (.take 2 (.take 3 (.take 4 (.take 5 (.take 6 (.take 7 (.take 8 (.take 9 (.take 10 (.take 11 (.move 12 (.move 13 (.move 14 (.move 15 (.move 16 .done))))))))))))))))) j9 j9 ?_ ?_
   ·exact HtS.out _ (Keeps.drew _)
   intro w9 hs9 hk9;refine jR ?_;rw [<-had9];clear had9;refine Ag rfl (λK hK=> ?_);go_simp
   go_at_call 92
   ((with_reducible refine(Hown.out w9 hk9).mono ?_);rintro e w10 hg)
   obtain⟨v10,Q,rfl,hp,hq⟩:=hg;dsimp only;have hk10:=Keeps.nt hk9 hp.fr.1;refine hK.out _ _ (by exact HtS.out _ hk10) ?_;clear hK K
   try simp only [aps]
   obtain⟨aq,cq,rfl,_,_⟩:=Ae hp.row;obtain⟨nq,hnq⟩:∃n,Q.length=n:=⟨_,rfl⟩
   have hnq1:nq<=300:=by
    have:nq=n2-n1:=by rw [<-hnq];have:=congrArg List.length hq;simpa [Hn2.out] using this
    omega
   have hA3:=HA2.out.keep0 hk10;have hrowI:=hA3.iss;rw [hvi',HnI.out] at hrowI;have hrdQ:=Reads.Az hp.row;rw [hnq] at hrdQ⊢;have hbxA:=Ad Hbxz.out hk10 (by simp);have hbx7A:=Ad Hbx7.out (Hkz.out.nt hk10) (by simp);have hb7A:=Ad Hb7'.out (Hkz.out.nt hk10) (by simp);have hkz10:=Hkz.out.nt hk10;have hqlf:∀y∈Q,∀b,y.v.ownBlock=some b->W2.heap.size<=b:=λy hy b hb=>by have h1:=hp.lf y hy b hb;have h2:=(Hk7.out.nt (Hkz.out.nt hk9)).size;omega
   have hqln:=hp.ln;have hone:=SV.one Q;have hl3:=lt_of_block hA3.blk;clear hp hs9 hk9;obtain⟨Hq,Hnq,HbxA,Hbx7A,Hb7A,Hkz10,Hqlf,Hqln,Hone⟩:=hid9 hq hnq hbxA hbx7A hb7A hkz10 hqlf hqln hone;clear hone hqln hqlf hkz10 hb7A hbx7A hbxA hnq hq;obtain⟨HA3,HrdQ,HrowI⟩:=hid3 hA3 hrdQ hrowI;clear hrowI hrdQ hA3;refine jR ?_;refine Ag rfl (λK hK=> ?_);refine Bv rfl (.tmp 83) (.tmp 91) 84 rfl 0 60 i0 _ 9 88 Tryz.underlying84 Hi.out Hi0.out Hi1.out Hi2.out rfl j7 (.slice ai nI ci) nI _ rfl HrowI.out _ nq _ rfl HrdQ.out Hone.out jd j6 (Nat.zero_le _) ?_;intro v14 w14 hown14 hk14 hf14;obtain⟨a14,c14,rfl,_,_⟩:=Ae hown14;have hnB14:¬(Value.slice ai nI ci).ownBlock=some B:=λe=>HA3.out.si B j0s (.inl rfl);have hb14:=Ad HA3.out.blk hk14 hnB14;obtain⟨oc,o16⟩:∃v,w14.cell? ⟨B,16,none⟩=some v:=⟨_,(Aa hb14 16).trans rfl⟩;have of16:=Ab hb14 16;have ol16:=lt_of_block hb14;refine hK.out _ _ (by exact(HtS.out _ hk10).keepS hk14 hnB14) ?_;clear hK K
   try simp only [aps]
   obtain⟨Hb14,Hown14,Hk14,Hf14,Hk10⟩:=hid5 hb14 hown14 hk14 hf14 hk10;clear hk10 hf14 hk14 hown14 hb14
   repeat (refine Eb (v:= ?_) rfl (by rfl) ?_ ?_;rotate_left;(· intro w' hSw;unfold t12S at hSw;go_simp;(try with_reducible rfl));rotate_right;try simp only [aps])
   refine Cr rfl (λK hK=> ?_);go_simp;refine hK.out _ _ ?_;clear hK K
   try simp only [aps]
   refine Ap ?_;obtain⟨sq,hsq⟩:∃s,a.seq=s:=⟨_,rfl⟩;have hs0:=H.out.ok.s0;rw [hsq] at hs hs0;have q1:IntKind.i64.wrap (td+d)=td+d:=IntWalk.i64_in _ ⟨by omega,by omega⟩;have q2:IntKind.i64.wrap (sq+1)=sq+1:=IntWalk.i64_in _ ⟨by omega,by omega⟩;obtain⟨W17,hW17⟩:∃W,W=w14.setCell ⟨B,16,none⟩ (.slice a14 (nI+nq) c14):=⟨_,rfl⟩;have k17:Keeps (λi=>i=B) w14 W17:=by rw [hW17];exact(Keeps.refl _ _).setB _ _
   have hb17:W17.heap[B]?=some (.cells #[.int .i64 a.t.limit,x.vt,.int .i64 a.t.cyc,.int .i64 a.t.due,.int .i64 a.t.minFixed,.int .i64 a.t.minPart,.int .i64 a.t.start,.int .i64 td,.int .i64 sq,(.pointer (some ⟨x.bl,0,none⟩)),(.pointer (some ⟨x.bb,0,none⟩)),x.vp,.int .i64 a.s.p.cr,.int .i64 a.s.p.du,x.vr,x.vn,.slice a14 (nI+nq) c14,x.va] 136 (0,0)):=by rw [hW17,<-hsq,<-Htd.out];exact heap_setCell_same _ _ 16 _ _ (.slice a14 (nI+nq) c14) Hb14.out
   rw [<-hW17];clear hW17 ol16 of16 o16;have hvilt:∀b,x.vi.ownBlock=some b->b<w.heap.size:=λb hb=>rowLt H.out.iss hb;have hsz2:=Hkw2.out.size;have hb7B:¬b7=B:=λe=>by have:=HBl.out;omega
   have hBb7:¬B=b7:=λe=>hb7B e.symm;have hW7l:=Hk7.out.size;have hwl:=Hk0.out.size;have hRB:¬w.heap.size=B:=λe=>by omega
   have hb11B:¬b11=B:=λe=>by have:=HBl.out;omega
   have hx7:=Ad (Ad Hbx7A.out Hk14.out (λe=>by have:=hvilt b7 j0s;omega)) k17 hb7B;have hx11:=Ad (Ad HbxA.out Hk14.out (λe=>by have:=hvilt b11 j0s;omega)) k17 hb11B;have hxR:=Ad (Ad Hb7A.out Hk14.out (λe=>by have:=hvilt _ j0s;omega)) k17 hRB;have p0:=Aa hx7 0;have p1:=Aa hx7 1;have p2:=Aa hx7 2;have pl:=lt_of_block hx7;have d7:=Aa hb17 7;have d8:=Aa hb17 8;have d11:=Aa hb17 11;have d12:=Aa hb17 12;have d13:=Aa hb17 13;have d14:=Aa hb17 14;have d15:=Aa hb17 15;have f7:=Ab hb17 7;have f8:=Ab hb17 8;have f11:=Ab hb17 11;have f12:=Ab hb17 12;have f13:=Ab hb17 13;have f14:=Ab hb17 14;have f15:=Ab hb17 15;have fl:=lt_of_block hb17;have g1:=heap_setCell_same _ _ 7 _ _ (.int .i64 (td+d)) hb17;have g2:=heap_setCell_same _ _ 11 _ _ (.slice av mv cv) g1;have g3:=heap_setCell_same _ _ 12 _ _ (.int .i64 Z.1.p.cr) g2;have g4:=heap_setCell_same _ _ 13 _ _ (.int .i64 Z.1.p.du) g3;have g5:=heap_setCell_same _ _ 14 _ _ (.slice ar n cr2) g4;have g6:=heap_setCell_same _ _ 15 _ _ (.slice ao n2 co) g5;have g7:=heap_setCell_same _ _ 8 _ _ (.int .i64 (sq+1)) g6;obtain⟨Wf,hWf⟩:∃W,W=((((((W17.setCell ⟨B,7,none⟩ (.int .i64 (td+d))).setCell ⟨B,11,none⟩ (.slice av mv cv)).setCell ⟨B,12,none⟩ (.int .i64 Z.1.p.cr)).setCell ⟨B,13,none⟩ (.int .i64 Z.1.p.du)).setCell ⟨B,14,none⟩ (.slice ar n cr2)).setCell ⟨B,15,none⟩ (.slice ao n2 co)).setCell ⟨B,8,none⟩ (.int .i64 (sq+1)):=⟨_,rfl⟩;have kf:Keeps (λi=>i=B) W17 Wf:=by rw [hWf];exact(((((((Keeps.refl _ _).setB _ _).setB _ _).setB _ _).setB _ _).setB _ _).setB _ _).setB _ _
   rw [<-hWf] at g7;have hgf:Wf.heap[B]?=some (.cells #[.int .i64 a.t.limit,x.vt,.int .i64 a.t.cyc,.int .i64 a.t.due,.int .i64 a.t.minFixed,.int .i64 a.t.minPart,.int .i64 a.t.start,.int .i64 (td+d),.int .i64 (sq+1),(.pointer (some ⟨x.bl,0,none⟩)),(.pointer (some ⟨x.bb,0,none⟩)),.slice av mv cv,.int .i64 Z.1.p.cr,.int .i64 Z.1.p.du,.slice ar n cr2,.slice ao n2 co,.slice a14 (nI+nq) c14,x.va] 136 (0,0)):=g7;have hx11f:=Ad hx11 kf hb11B;have hxRf:=Ad hxR kf hRB;have kR:=Co Wf w.heap.size #[.int .i64 0,.int .i64 0,.int .i64 tcv,.int .i64 0,.int .i64 0,.slice none 0 0,.int .i64 0,.int .i64 0,.slice none 0 0,.slice none 0 0,.int .i64 0,.int .i64 0,.int .i64 0,.int .i64 0,.int .i64 0,.slice none 0 0,.int .i64 0,.int .i64 0,.int .i64 0,.bool false];have hxF:=setRow_heap Wf w.heap.size #[.int .i64 0,.int .i64 0,.int .i64 0,.int .i64 0,.int .i64 0,.slice none 0 0,.int .i64 0,.int .i64 0,.slice none 0 0,.slice none 0 0,.int .i64 0,.int .i64 0,.int .i64 0,.int .i64 0,.int .i64 0,.slice none 0 0,.int .i64 0,.int .i64 0,.int .i64 0,.bool false] #[.int .i64 0,.int .i64 0,.int .i64 tcv,.int .i64 0,.int .i64 0,.slice none 0 0,.int .i64 0,.int .i64 0,.slice none 0 0,.slice none 0 0,.int .i64 0,.int .i64 0,.int .i64 0,.int .i64 0,.int .i64 0,.slice none 0 0,.int .i64 0,.int .i64 0,.int .i64 0,.bool false] 62 _ hxRf
   have hvi14:∀b,(Value.slice a14 (nI+nq) c14).ownBlock=some b->x.vi.ownBlock=some b\/w10.heap.size<=b:=λb hb=>by
    rcases Hf14.out with h1|⟨g',h1,h2⟩
    ·rw [h1] at hb;exact .inl (by rw [hvi'];exact hb)
    ·rw [h1] at hb;simp only [Option.some.injEq] at hb;exact .inr j6
   have hw10l:W2.heap.size<=w10.heap.size:=(Hk7.out.nt Hkz10.out).size;have hKf:Keeps (TkS B x w W2) w10 (Wf.setRow w.heap.size #[.int .i64 0,.int .i64 0,.int .i64 tcv,.int .i64 0,.int .i64 0,.slice none 0 0,.int .i64 0,.int .i64 0,.slice none 0 0,.slice none 0 0,.int .i64 0,.int .i64 0,.int .i64 0,.int .i64 0,.int .i64 0,.slice none 0 0,.int .i64 0,.int .i64 0,.int .i64 0,.bool false]):=(((Hk14.out.mono λi _ e=> .inl (.inr j0s)).trans (k17.mono λi _ e=> .inl (.inl (.inl e)))).trans (kf.mono λi _ e=> .inl (.inl (.inl e)))).trans (kR.mono λi _ e=> .inl (.inr ⟨by have e':i=w.heap.size:=e;omega,by have e':i=w.heap.size:=e;have:=lt_of_block Hb2.out;omega⟩))
   have hri:(Wf.setRow w.heap.size #[.int .i64 0,.int .i64 0,.int .i64 tcv,.int .i64 0,.int .i64 0,.slice none 0 0,.int .i64 0,.int .i64 0,.slice none 0 0,.slice none 0 0,.int .i64 0,.int .i64 0,.int .i64 0,.int .i64 0,.int .i64 0,.slice none 0 0,.int .i64 0,.int .i64 0,.int .i64 0,.bool false]).ownsRow 0 60 9 (.slice a14 (nI+nq) c14) (x.I++Q).length ((x.I++Q).flatMap SV.cells):=by
    rw [List.length_append,HnI.out,Hnq.out,List.flatMap_append];refine kR.row (kf.row (k17.row Hown14.out λb hb e=> ?_) λb hb e=> ?_) λb hb e=> ?_
    ·exact j4l
    ·exact j4l
    ·have e':b=w.heap.size:=e;have:=lt_of_block Hb2.out;rcases hvi14 b hb with h1|h1
     ·have:=hvilt b h1;omega
     ·omega
   have hpost:=AcAt.ticked (d:=d) H.out (Hkw7.out.nt Hkz10.out) Hkw2.out (Hk7.out.nt Hkz10.out) hKf (by rw [Ht.out];exact HN.out) (by rw [Ht.out,HL1.out,Htd.out];exact HZ.out) Hz7.out (G.out.keep0 Hkz10.out) (by rw [Hn1'.out,Hn2'.out];exact hmo) (by rw [Hq.out,List.map_drop,G.out.lp,Hn1'.out]) Hqln.out Hqlf.out (by rw [Htd.out,hsq,Hn2.out];exact Ad hgf kR (λe=>hRB e.symm)) hri (Nat.le_refl _) hvi14;clear g1 g2 g3 g4 g5 g6 g7 hKf hri hvi14 hvilt;obtain⟨Hsq,K17,Hb17,Hx7,Hx11,HxR,Kf,Hgf,Hx11f⟩:=hid9 hsq k17 hb17 hx7 hx11 hxR kf hgf hx11f;clear hx11f hgf kf hxR hx11 hx7 hb17 k17 hsq;obtain⟨HxRf,KR,HxF,Hpost,HRB,Hb11B⟩:=hid6 hxRf kR hxF hpost hRB hb11B;clear hb11B hRB hpost hxF kR hxRf;have hc1:=Hte.out;have hc2:=Htk.out;have hc3:=Htcv.out;obtain⟨Hc1,Hc2,Hc3⟩:=hid3 hc1 hc2 hc3;clear hc3 hc2 hc1
   go_upto_region 16 with fail
   rw [<-hWf];clear hWf p0 p1 p2 pl d7 d8 d11 d12 d13 d14 d15 f7 f8 f11 f12 f13 f14 f15 fl q1 q2
   go_wp2_with (first|(refine wpList_store_row (o:=⟨none,_,_,_,_,_⟩) rfl 62 (.tmp 4) (.tmp 122) rfl w.heap.size #[.int .i64 0,.int .i64 0,.int .i64 tcv,.int .i64 0,.int .i64 0,.slice none 0 0,.int .i64 0,.int .i64 0,.slice none 0 0,.slice none 0 0,.int .i64 0,.int .i64 0,.int .i64 0,.int .i64 0,.int .i64 0,.slice none 0 0,.int .i64 0,.int .i64 0,.int .i64 0,.bool false] rfl rfl 62 #[.int .i64 0,.int .i64 0,.int .i64 0,.int .i64 0,.int .i64 0,.slice none 0 0,.int .i64 0,.int .i64 0,.slice none 0 0,.slice none 0 0,.int .i64 0,.int .i64 0,.int .i64 0,.int .i64 0,.int .i64 0,.slice none 0 0,.int .i64 0,.int .i64 0,.int .i64 0,.bool false] HxRf.out Aw rfl (Dr 0 0 tcv) ?_)|(refine wpList_load_row (o:=⟨some 122,_,_,_,_,_⟩) rfl 62 (.tmp 11) rfl b11 rfl 62 #[.int .i64 0,.int .i64 0,.int .i64 tcv,.int .i64 0,.int .i64 0,.slice none 0 0,.int .i64 0,.int .i64 0,.slice none 0 0,.slice none 0 0,.int .i64 0,.int .i64 0,.int .i64 0,.int .i64 0,.int .i64 0,.slice none 0 0,.int .i64 0,.int .i64 0,.int .i64 0,.bool false] _ _ Hx11f.out Tryz.underlying62 rfl Aw ?_))
   exact bodyPost_ret (results_cell_row rfl _ _ w.heap.size 62 #[.int .i64 0,.int .i64 0,.int .i64 tcv,.int .i64 0,.int .i64 0,.slice none 0 0,.int .i64 0,.int .i64 0,.slice none 0 0,.slice none 0 0,.int .i64 0,.int .i64 0,.int .i64 0,.int .i64 0,.int .i64 0,.slice none 0 0,.int .i64 0,.int .i64 0,.int .i64 0,.bool false] _ _ rfl HxF.out Tryz.underlying62 rfl Aw) rfl ⟨by rw [Hc1.out,Hc3.out],by rw [Hc2.out];exact Hpost.out⟩
 ·have hne:(z1 !=0)=true:=by simp [h0]
  have hc:=te_day (a:=a) Hd.out (by rw [Hst.out,Hcd.out,Htd.out,Hz1.out];exact h0);clear q1;obtain⟨Hc,H0⟩:=hid2 hc h0;clear h0 hc;go_wp2_with fail;refine(Dy 10 _).mono ?_;rintro e w3 ⟨rfl,hk3⟩;have hb3:=Ad Hb2.out hk3 (by simp);have hk03:=Hk02.out.nt hk3;clear hk3;obtain⟨Hb3,Hk03⟩:=hid2 hb3 hk03;clear hk03 hb3;obtain⟨hput1,hput2⟩:=putRow (V:= #[.int .i64 10,.int .i64 0,.int .i64 0,.int .i64 0,.int .i64 0,.slice none 0 0,.int .i64 0,.int .i64 0,.slice none 0 0,.slice none 0 0,.int .i64 0,.int .i64 0,.int .i64 0,.int .i64 0,.int .i64 0,.slice none 0 0,.int .i64 0,.int .i64 0,.int .i64 0,.bool false]) Hb3.out Hk03.out (Nat.le_refl _);obtain⟨Hput1,Hput2⟩:=hid2 hput1 hput2;clear hput2 hput1
  go_wp2_with (refine wpList_store_row rfl 62 (.tmp 4) (.tmp 41) rfl w.heap.size #[.int .i64 10,.int .i64 0,.int .i64 0,.int .i64 0,.int .i64 0,.slice none 0 0,.int .i64 0,.int .i64 0,.slice none 0 0,.slice none 0 0,.int .i64 0,.int .i64 0,.int .i64 0,.int .i64 0,.int .i64 0,.slice none 0 0,.int .i64 0,.int .i64 0,.int .i64 0,.bool false] rfl rfl 62 #[.int .i64 0,.int .i64 0,.int .i64 0,.int .i64 0,.int .i64 0,.slice none 0 0,.int .i64 0,.int .i64 0,.slice none 0 0,.slice none 0 0,.int .i64 0,.int .i64 0,.int .i64 0,.int .i64 0,.int .i64 0,.slice none 0 0,.int .i64 0,.int .i64 0,.int .i64 0,.bool false] Hb3.out Aw rfl (Dr 10 0 0) ?_)
  exact bodyPost_ret (results_cell_row rfl _ _ w.heap.size 62 #[.int .i64 10,.int .i64 0,.int .i64 0,.int .i64 0,.int .i64 0,.slice none 0 0,.int .i64 0,.int .i64 0,.slice none 0 0,.slice none 0 0,.int .i64 0,.int .i64 0,.int .i64 0,.int .i64 0,.int .i64 0,.slice none 0 0,.int .i64 0,.int .i64 0,.int .i64 0,.bool false] _ _ rfl Hput1.out Tryz.underlying62 rfl Aw) rfl ⟨by rw [Hc.out.1,Hc.out.2.1],by rw [Hc.out.2.2];exact Cf.same H.out Hput2.out⟩
def cntD:Nat->List (Int×Int)->Int->Nat
 |0,_,_=>0
 |_+1, [],_=>0
 |d+1,(fr,te)::S,day=>if te=day then cntD d S (day+1)+1 else cntD d ((fr,te)::S) (day+1)
theorem Qn(k:Nat)(X:List (Int×Int)):∀(d:Nat) (S:List (Int×Int)) (day:Int),cntD d S day<=cntD (d+k) (S++X) day
 |0,_,_=>by simp [cntD]
 |d+1, [],_=>by simp [cntD]
 |d+1,(fr,te)::S,day=>by
  rw [show d+1+k=(d+k)+1 by omega,List.cons_append];unfold cntD
  split
  ·exact Nat.succ_le_succ (Qn k X d S (day+1))
  ·exact Qn k X d ((fr,te)::S) (day+1)
theorem Ad9{t:Tm}{L:List Ev}{n:Nat}{s s2:St}{fr te:Int}(h:Fa t L n s fr te=some s2):s2.out.length=s.out.length+1/\s2.day=s.day/\∃x,s2.out=s.out++ [x]:=by
 unfold Fa at h
 split at h
 ·cases h
 ·split at h
  ·cases h
  ·simp only [Option.some.injEq] at h;subst h;exact⟨by simp,rfl,_,rfl⟩
theorem Mi{t:Tm}{T:List Ev}{n:Nat}:∀(d:Nat) (S:List (Int×Int)) (s:St) (Z:St×Int),walkD t T n d S s=Z->Z.2=0->Z.1.out.length=s.out.length+cntD d S s.day
 |0,S,s,Z,h,hz=>by
  unfold walkD at h;subst h;simp [cntD,evSt]
 |d+1,S,s,Z,h,hz=>by
  unfold walkD at h
  split at h
  ·split at h
   ·subst h;simp at hz
   ·rename_i fr te S'
    split at h
    ·rename_i ht
     split at h
     ·subst h;simp at hz
     ·rename_i s2 hc;have h1:=Ad9 hc;have h2:=Mi d S' _ Z h hz;have e1:s2.out.length=s.out.length+1:=by rw [h1.1];rfl
      conv=>rhs;unfold cntD
      rw [if_pos ht];simp only [e1] at h2;omega
    ·rename_i ht;have h2:=Mi d _ _ Z h hz;rw [h2]
     conv=>rhs;unfold cntD
     rw [if_neg ht];rfl
  ·rename_i hne;subst h;exact absurd hz hne
theorem Ab3{cd day day':Int}(hd:day<=day'):∀(f:Nat) (fr:Int),∃X,(findW cd day' f fr).1=(findW cd day f fr).1++X
 |0,fr=>⟨[],rfl⟩
 |f+1,fr=>by
  unfold findW
  split
  ·by_cases h1:lastF fr cd<day/\f≠0
   ·rw [if_pos h1,if_pos ⟨by omega,h1.2⟩];obtain⟨X,hX⟩:=Ab3 (cd:=cd) hd f (lastF fr cd+1);exact⟨X,by rw [hX];rfl⟩
   ·rw [if_neg h1]
    split
    ·exact⟨_,rfl⟩
    ·exact⟨[],rfl⟩
  ·exact⟨[],by simp⟩
theorem Abx{t:Tm}{L L2:List Ev}{td td2:Int}(h:td<=td2)(h1:(walkR t L td).2=0)(h2:(walkR t L2 td2).2=0):(walkR t L td).1.out.length<=(walkR t L2 td2).1.out.length:=by
 have e1:Dl t L td=0:=(Sy rfl h1).1;have e2:Dl t L2 td2=0:=(Sy rfl h2).1;have r1:=Ea e1;have r2:=Ea e2;have k1:(walkR t L td)=walkD t (sortL L) t.trs.length (td-t.start).toNat (allL t.start t.cyc td) (st0 t):=by unfold walkR;rw [if_pos e1]
 have k2:(walkR t L2 td2)=walkD t (sortL L2) t.trs.length (td2-t.start).toNat (allL t.start t.cyc td2) (st0 t):=by unfold walkR;rw [if_pos e2]
 rw [Mi _ _ _ _ k1.symm h1,Mi _ _ _ _ k2.symm h2];obtain⟨X,hX⟩:=Ab3 (cd:=t.cyc) h 300 t.start;unfold allL;rw [if_pos r1.fd,if_pos r2.fd,hX,show(td2-t.start).toNat=(td-t.start).toNat+(td2-td).toNat by have:=r1.d0;omega];exact Nat.add_le_add_left (Qn _ _ _ _ _) _
theorem Ac.mono{a:Ac}(h:AcOk a){d:Int}(ht:a.te d=0):a.s.out.length<=(a.tz d).1.out.length:=by
 have hd:1<=d/\(a.tz d).2=0:=by
  unfold Ac.te at ht
  split at ht
  ·cases ht
  ·split at ht
   ·cases ht
   ·exact⟨by omega,ht⟩
 have hw:=h.wk;have e1:(walkR a.t a.L a.today).2=0:=by rw [hw]
 have:=Abx (L2:=a.L) (td2:=a.today+d) j6 e1 hd.2;rw [hw] at this;exact this
theorem Adg(B:Nat)(x:AcV)(a:Ac)(c:Cmd)(w:World)(h:AcAt w B x a)(hs:a.seq<=100000)(hk:c.kind=8):
  Calls Tryz.prog 33 #[(.pointer (some ⟨B,0,none⟩)),.agg #[.int .i64 c.kind,.int .i64 c.day,.int .i64 c.tranche,.int .i64 c.amount,.int .i64 c.ref]] w λe w'=>e= .returned (.agg #[.int .i64 (a.te c.day),.int .i64 0,.int .i64 (a.tc c.day),.int .i64 0,.int .i64 0,.slice none 0 0,.int .i64 0,.int .i64 0,.slice none 0 0,.slice none 0 0,.int .i64 0,.int .i64 0,.int .i64 0,.int .i64 0,.int .i64 0,.slice none 0 0,.int .i64 0,.int .i64 0,.int .i64 0,.bool false])/\Cf w B x (a.tick c.day) w':=by
 obtain⟨ki,da,tr,am,re⟩:=c;simp only at hk⊢;subst hk;have hti:=fun(W:World) (hW:Keeps (λ_=>False) w W)=>Abs B x a da W (h.keep0 hW) hs (λht=>Ac.mono h.ok ht);unfold Uv at hti;obtain⟨te,hte⟩:∃z,a.te da=z:=⟨_,rfl⟩;obtain⟨tc,htc⟩:∃z,a.tc da=z:=⟨_,rfl⟩;rw [hte,htc] at hti⊢;obtain⟨W0,hW0⟩:∃x,x=(w.alloc (.cells #[.int .i64 8,.int .i64 da,.int .i64 tr,.int .i64 am,.int .i64 re] 23)).alloc (.cells #[.int .i64 0,.int .i64 0,.int .i64 0,.int .i64 0,.int .i64 0,.slice none 0 0,.int .i64 0,.int .i64 0,.slice none 0 0,.slice none 0 0,.int .i64 0,.int .i64 0,.int .i64 0,.int .i64 0,.int .i64 0,.slice none 0 0,.int .i64 0,.int .i64 0,.int .i64 0,.bool false] 62):=⟨_,rfl⟩;have hc0:W0.heap[w.heap.size]?=some (.cells #[.int .i64 8,.int .i64 da,.int .i64 tr,.int .i64 am,.int .i64 re] 23 (0,0)):=by rw [hW0];exact Ar (heap_alloc_new w _) _
 have hr0:W0.heap[w.heap.size+1]?=some (.cells #[.int .i64 0,.int .i64 0,.int .i64 0,.int .i64 0,.int .i64 0,.slice none 0 0,.int .i64 0,.int .i64 0,.slice none 0 0,.slice none 0 0,.int .i64 0,.int .i64 0,.int .i64 0,.int .i64 0,.int .i64 0,.slice none 0 0,.int .i64 0,.int .i64 0,.int .i64 0,.bool false] 62 (0,0)):=by rw [hW0];exact Av _ _ (by simp)
 have hk0:Keeps (λ_=>False) w W0:=by rw [hW0];(repeat (first|exact Keeps.refl _ _|exact Keeps.alloc _ _|exact Keeps.drew _|exact Keeps.drewN _ _|refine Keeps.Am ?_|refine Keeps.Ak ?_|refine Keeps.Af ?_))
 obtain⟨H,Hti,Hte,Htc,Hc0,Hr0,Hk0⟩:=hid7 h hti hte htc hc0 hr0 hk0;clear hk0 hr0 hc0 htc hte hti h;go_enter Tryz.func33,Tryz.ntmps33;go_wp2_with fail;rw [<-hW0];clear hW0;refine(Hti.out W0 Hk0.out).mono ?_;rintro e w2 ⟨rfl,hp⟩;obtain⟨hR,hq⟩:=Cf.ret (V:= #[.int .i64 te,.int .i64 0,.int .i64 tc,.int .i64 0,.int .i64 0,.slice none 0 0,.int .i64 0,.int .i64 0,.slice none 0 0,.slice none 0 0,.int .i64 0,.int .i64 0,.int .i64 0,.int .i64 0,.int .i64 0,.slice none 0 0,.int .i64 0,.int .i64 0,.int .i64 0,.bool false]) H.out Hk0.out hp Hr0.out (Nat.le_succ _);have hput:=setRow_heap w2 (w.heap.size+1) #[.int .i64 0,.int .i64 0,.int .i64 0,.int .i64 0,.int .i64 0,.slice none 0 0,.int .i64 0,.int .i64 0,.slice none 0 0,.slice none 0 0,.int .i64 0,.int .i64 0,.int .i64 0,.int .i64 0,.int .i64 0,.slice none 0 0,.int .i64 0,.int .i64 0,.int .i64 0,.bool false] #[.int .i64 te,.int .i64 0,.int .i64 tc,.int .i64 0,.int .i64 0,.slice none 0 0,.int .i64 0,.int .i64 0,.slice none 0 0,.slice none 0 0,.int .i64 0,.int .i64 0,.int .i64 0,.int .i64 0,.int .i64 0,.slice none 0 0,.int .i64 0,.int .i64 0,.int .i64 0,.bool false] 62 _ hR;clear hp;obtain⟨HR,Hq,Hput⟩:=hid3 hR hq hput;clear hput hq hR
 go_wp2_with (refine wpList_store_row rfl 62 (.tmp 4) (.tmp 15) rfl (w.heap.size+1) #[.int .i64 te,.int .i64 0,.int .i64 tc,.int .i64 0,.int .i64 0,.slice none 0 0,.int .i64 0,.int .i64 0,.slice none 0 0,.slice none 0 0,.int .i64 0,.int .i64 0,.int .i64 0,.int .i64 0,.int .i64 0,.slice none 0 0,.int .i64 0,.int .i64 0,.int .i64 0,.bool false] rfl rfl 62 #[.int .i64 0,.int .i64 0,.int .i64 0,.int .i64 0,.int .i64 0,.slice none 0 0,.int .i64 0,.int .i64 0,.slice none 0 0,.slice none 0 0,.int .i64 0,.int .i64 0,.int .i64 0,.int .i64 0,.int .i64 0,.slice none 0 0,.int .i64 0,.int .i64 0,.int .i64 0,.bool false] HR.out Aw rfl (Dr _ _ _) ?_)
 exact bodyPost_ret (results_cell_row rfl _ _ (w.heap.size+1) 62 #[.int .i64 te,.int .i64 0,.int .i64 tc,.int .i64 0,.int .i64 0,.slice none 0 0,.int .i64 0,.int .i64 0,.slice none 0 0,.slice none 0 0,.int .i64 0,.int .i64 0,.int .i64 0,.int .i64 0,.int .i64 0,.slice none 0 0,.int .i64 0,.int .i64 0,.int .i64 0,.bool false] _ _ rfl Hput.out Tryz.underlying62 rfl Aw) rfl ⟨rfl,Hq.out⟩
theorem at_st{B:Nat}{x:AcV}{a:Ac}{W:World}(h:AcAt W B x a){td cy sq cr du:Int}{n m q:Nat}(htd:a.today=td)(hcy:a.cyc a.today=cy)(hsq:a.seq=sq)(hcr:a.s.p.cr=cr)(hdu:a.s.p.du=du)(hn:a.s.p.bal.length=n)(hm:a.s.R.length=m)(hq:a.D.length=q):
  Calls Tryz.prog 31 #[(.pointer (some ⟨B,0,none⟩))] W (StL a W td cy sq cr du n m q):=by
 refine(Zf B x a W h).mono ?_;rintro e w' ⟨a1,c1,a2,c2,a3,c3,he,h1,h2,h3,h4,h5⟩;rw [hn] at h1;rw [hm] at h2;rw [hq] at h3;rw [hcy,htd,hsq,hcr,hdu,hn,hm,hq] at he;rw [hn,hm,hq] at h5;exact⟨a1,c1,a2,c2,a3,c3,he,h1,h2,h3,h4,h5⟩
theorem Yw(w:World)(v:Value)(n:Nat)(xs:List Value)(hr:Reads w 9 v n xs)(h1:∀u∈xs,u.oneCell'=true)(hn:n<=1000000000000):
  Calls Tryz.prog 126 #[v] w λe w'=>∃v',e= .returned v'/\w'.ownsRow 0 60 9 v' n xs/\Keeps (λ_=>False) w w'/\(∀k,v'.ownBlock=some k->w.heap.size<=k):=by
 obtain⟨i0,hi,hz0,hz1,hz2⟩:=info_parts Mq;have hr':=hr;obtain⟨ad,c,rfl,hnc,hl,hnone,hcells⟩:=hr';clear hcells;have heq:=fun(wx:World) (ad:Option Addr) (l c:Nat)=>Lib.run_eql_slice_nil (P:=Tryz.prog) wx 84 _ ad l c 0 0 Tryz.underlying84;rcases ad with _|a
 ·obtain rfl:=hnone rfl;obtain rfl:n=0:=by omega
  obtain rfl:xs= []:=List.eq_nil_of_length_eq_zero jr;have hr0:=Lib.hid hr;clear hr;go_enter Tryz.func126,Tryz.ntmps126;exact jH
 ·have Hr:=Lib.hid hr;clear hr;obtain⟨Hl,Hnone,H1⟩:=hid3 hl hnone h1;clear h1 hnone hl;go_enter Tryz.func126,Tryz.ntmps126
  go_wp2_with (at_builtin;refine Ao rfl (.tmp 5) (.tmp 6) 84 rfl 0 60 i0 _ 9 88 Tryz.underlying84 hi hz0 hz1 hz2 rfl j7 _ 0 [] rfl (World.ownsRow_lit w #[] 0 j6 jd rfl) _ n xs rfl (Hr.out.keeps (Keeps.alloc (S:=λ_=>False) _ _) (by simp)) H1.out jd j6 j6 ?_)
  intro v' w1 hown1 hk1 hfr
  have hend:w1.ownsRow 0 60 9 v' n xs/\Keeps (λ_=>False) w w1/\(∀k,v'.ownBlock=some k->w.heap.size<=k):=by
   exact jI
  exact jJ
theorem Wn:(Tryz.prog.info? 136).map (·.size)=some 18:=by kernel_rfl
theorem AcAt.forked{w W:World}{B F bl bb:Nat}{x:AcV}{a:Ac}{vl vb vi va:Value}(h:AcAt w B x a)(hk:Keeps (λ_=>False) w W)(hblk:W.heap[F]?=some (.cells (AcV.blk { x with bl:=bl,vl:=vl,bb:=bb,vb:=vb,vi:=vi,va:=va } a) 136 (0,0)))
  (hdl:DL W bl a.t x.vtl a.L vl) (hbk:Cs W bb vb a.D) (hiss:W.ownsRow 0 60 9 vi x.I.length (x.I.flatMap SV.cells)) (hadj:W.ownsRow 0 90 9 va a.adj.length (a.adj.flatMap Adj.cells)) (hF:w.heap.size<=F) (hvi:∀b,vi.ownBlock=some b->w.heap.size<=b) (hva:∀b,va.ownBlock=some b->w.heap.size<=b)
  (hbl:w.heap.size<=bl) (hvl:∀b,vl.ownBlock=some b->w.heap.size<=b) (hbb:∀b,Foot bb vb b->w.heap.size<=b):
  ∃x',AcAt W F x' a/\(∀b,AcF F x' b->w.heap.size<=b)/\(∀b,x'.rd b->x.rd b\/w.heap.size<=b):=by
 have hlt:∀b,x.rd b->b<w.heap.size:=λb hb=>h.lt b (.inr hb)
 have hne:∀{b:Nat} {D:Array Value} {s:TypeId} {fz:Nat×Nat},W.heap[b]?=some (.cells D s fz)->s≠136->s≠60->s≠90->¬AcF F { x with bl:=bl,vl:=vl,bb:=bb,vb:=vb,vi:=vi,va:=va } b:=by
  rintro b D s fz hb h1 h2 h3 (rfl|e|e)
  ·rw [hblk] at hb;injection hb with hb;injection hb with _ he _;exact h1 he.symm
  ·exact Ai hiss hb h2 e
  ·exact Ai hadj hb h3 e
 have hrow:∀{b size n base:Nat} {v:Value} {s:TypeId} {xs:List Value},W.ownsRow base s size v n xs->v.ownBlock=some b->s≠136->s≠60->s≠90->¬AcF F { x with bl:=bl,vl:=vl,bb:=bb,vb:=vb,vi:=vi,va:=va } b:=by
  intro b size n base v s xs hr hb h1 h2 h3;rcases hr.2 with⟨hn,_⟩|⟨g',c',cur,hn,_,hgg,_⟩
  ·rw [hn] at hb;simp [Value.ownBlock] at hb
  ·rw [hn] at hb;have e':g'=b:=Option.some.inj hb;subst e';exact hne hgg h1 h2 h3
 have hold:∀b,b<w.heap.size->¬AcF F { x with bl:=bl,vl:=vl,bb:=bb,vb:=vb,vi:=vi,va:=va } b:=by
  rintro b hb (rfl|e|e)
  ·omega
  ·have:=hvi b e;omega
  ·have:=hva b e;omega
 refine⟨{ x with bl:=bl,vl:=vl,bb:=bb,vb:=vb,vi:=vi,va:=va },⟨hblk,hk.row h.trs (by simp),hdl,hbk,hk.row h.bal (by simp),hk.row h.rts (by simp),hk.row h.now (by simp),λy hy=>hk.row (h.nln y hy) (by simp),h.ns,hiss,λy hy=>hk.row (h.iln y hy) (by simp),h.is,hadj,h.ok, ?_, ?_, ?_⟩, ?_, ?_⟩
 ·rintro b (hb|hb|hb|hb|rfl|hb|hb|(rfl|hb)|⟨y,hy,hb⟩|⟨y,hy,hb⟩)
  ·exact hold b (hlt b (.inl hb))
  ·exact hold b (hlt b (.inr (.inl hb)))
  ·exact hold b (hlt b (.inr (.inr (.inl hb))))
  ·exact hold b (hlt b (.inr (.inr (.inr (.inl hb)))))
  ·exact hne hdl.blk j7 j7 j7
  ·exact hold b (hlt b (.inr (.inr (.inr (.inr (.inr (.inl hb)))))))
  ·exact hrow hdl.row hb j7 j7 j7
  ·exact hne hbk.blk j7 j7 j7
  ·exact hrow hbk.row hb j7 j7 j7
  ·exact hold b (hlt b (.inr (.inr (.inr (.inr (.inr (.inr (.inr (.inr (.inl ⟨y,hy,hb⟩))))))))))
  ·exact hold b (hlt b (.inr (.inr (.inr (.inr (.inr (.inr (.inr (.inr (.inr ⟨y,hy,hb⟩))))))))))
 ·rintro b hb (rfl|hb2)
  ·exact Ai hiss hblk j7 hb
  ·exact Eu hiss hadj j7 hb hb2
 ·rintro b hb rfl;exact Ai hadj hblk j7 hb
 ·rintro b (rfl|hb|hb)
  ·exact hF
  ·exact hvi b hb
  ·exact hva b hb
 ·rintro b (hb|hb|hb|hb|rfl|hb|hb|hb|⟨y,hy,hb⟩|⟨y,hy,hb⟩)
  ·exact .inl (.inl hb)
  ·exact .inl (.inr (.inl hb))
  ·exact .inl (.inr (.inr (.inl hb)))
  ·exact .inl (.inr (.inr (.inr (.inl hb))))
  ·exact .inr hbl
  ·exact j1W
  ·exact .inr (hvl b hb)
  ·exact .inr (hbb b hb)
  ·exact .inl (.inr (.inr (.inr (.inr (.inr (.inr (.inr (.inr (.inl ⟨y,hy,hb⟩)))))))))
  ·exact .inl (.inr (.inr (.inr (.inr (.inr (.inr (.inr (.inr (.inr ⟨y,hy,hb⟩)))))))))
def FkPost(w:World)(x:AcV)(a:Ac)(e:Ending)(w':World):Prop:=∃F x',e= .returned (.pointer (some ⟨F,0,none⟩))/\AcAt w' F x' a/\Keeps (λ_=>False) w w'/\(∀b,AcF F x' b->w.heap.size<=b)/\(∀b,x'.rd b->x.rd b\/w.heap.size<=b)
theorem fk_wp{P:Program}{c:Code}{Q:Exit->Act->World->Prop}{a:Act}{w:World}(h:∀W,W=w->c.wp P Q a W):c.wp P Q a w:=h w rfl
theorem fk_letter{Q:Exit->Act->World->Prop}{a:Act}{w:World}(h:∀V,V=w->Q .normal a V):Q .normal a w:=h w rfl
def fkA(B:Nat)(x9 x10 x16 x17:Value)(w:World):Prop:=w.cell? ⟨B,9,none⟩=some x9/\w.cell? ⟨B,10,none⟩=some x10/\w.cell? ⟨B,16,none⟩=some x16/\w.cell? ⟨B,17,none⟩=some x17
theorem fkA.keep{B:Nat}{x9 x10 x16 x17:Value}{w w':World}{S:Nat->Prop}(h:fkA B x9 x10 x16 x17 w)(hk:Keeps S w w')(hS:¬S B):fkA B x9 x10 x16 x17 w':=by
 obtain⟨h1,h2,h3,h4⟩:=h;exact⟨(hk.cell (Ah h1) hS).trans h1,(hk.cell (Ah h2) hS).trans h2,(hk.cell (Ah h3) hS).trans h3,(hk.cell (Ah h4) hS).trans h4⟩
theorem one_acc(a b c d e f g h i j:Int)(v1 v2 v3 v4 v5 v6:Value)(p q:Nat)(h1:v1.oneCell'=true)(h2:v2.oneCell'=true)(h3:v3.oneCell'=true)(h4:v4.oneCell'=true)(h5:v5.oneCell'=true)(h6:v6.oneCell'=true):
  (#[.int .i64 a,v1,.int .i64 b,.int .i64 c,.int .i64 d,.int .i64 e,.int .i64 f,.int .i64 g,.int .i64 h,(.pointer (some ⟨p,0,none⟩)),(.pointer (some ⟨q,0,none⟩)),v2,.int .i64 i,.int .i64 j,v3,v4,v5,v6]:Array Value).all (·.oneCell')=true:=by
 simp only [List.all_toArray,List.all_cons,List.all_nil,h1,h2,h3,h4,h5,h6,Bool.and_true,Bool.true_and];rfl
theorem Ml{w:World}{base:Nat}{e:TypeId}{size n:Nat}{v:Value}{xs:List Value}(h:w.ownsRow base e size v n xs):v.oneCell'=true:=by obtain⟨a,c,rfl,_⟩:=Ae h;rfl
theorem Rs(B:Nat)(x:AcV)(a:Ac)(w:World)(h:AcAt w B x a)(hs:a.seq<=100000):Calls Tryz.prog 68 #[(.pointer (some ⟨B,0,none⟩))] w (FkPost w x a):=by
 have hn:=h.ok.nums;have hfk:=λW (hW:Keeps (λ_=>False) w W)=>Rk x.bl a.t x.vtl x.vl a.L W (h.dl.keep hW) (by have:=hn.ll;omega);have hfb:=j4f;have hca:=λW (hW:Keeps (λ_=>False) w W)=>Yx W x.va a.adj.length _ ((Reads.Az h.adj).keeps hW (by simp)) (λu hu=>Adj.one _ u hu) (by have:=h.ok.aj;omega);have hil:x.I.length<=300:=by have:=hn.o3;have:=h.ok.il;have hx:=congrArg List.length h.is;rw [List.length_map] at hx;omega
 have hci:=λW (hW:Keeps (λ_=>False) w W)=>Yw W x.vi x.I.length _ ((Reads.Az h.iss).keeps hW (by simp)) (λu hu=>SV.one _ u hu) j6;have hb:=h.blk;have hone:(x.blk a).all (·.oneCell')=true:=one_acc _ _ _ _ _ _ _ _ _ _ _ _ _ _ _ _ _ _ (Ml h.trs) (Ml h.bal) (Ml h.rts) (Ml h.now) (Ml h.iss) (Ml h.adj);have hsz:(Tryz.prog.info? 136).map (·.size)=some (x.blk a).size:=Wn;have hA0:fkA B (.pointer (some ⟨x.bl,0,none⟩)) (.pointer (some ⟨x.bb,0,none⟩)) x.vi x.va w:=⟨Aa hb 9,Aa hb 10,Aa hb 16,Aa hb 17⟩;have hBl:=lt_of_block hb;have halt:w.heap.size=w.heap.size:=rfl;obtain⟨H,Hn,Hfk,Hfb,Hca,Hci,Hb,Hone,Hsz⟩:=hid9 h hn hfk hfb hca hci hb hone hsz;clear hsz hone hb hci hca hfb hfk hn h;obtain⟨HA0,Hil⟩:=hid2 hA0 hil;clear hil hA0;go_enter Tryz.func68,Tryz.ntmps68
 go_wp2_with (first|(refine wpList_load_row rfl 136 (.tmp 7) rfl B rfl 136 (x.blk a) _ _ Hb.out Tryz.underlying136 rfl Hsz.out ?_)|(refine wpList_store_row rfl 136 (.tmp 3) (.tmp 8) rfl w.heap.size (x.blk a) rfl rfl 136 _ (heap_alloc_new w _) Wn rfl Hone.out ?_))
 refine fk_wp λW1 hW1=> ?_;have hk1:Keeps (λ_=>False) w W1:=by rw [hW1];exact(Keeps.alloc w _).trans ((Co _ _ _).mono λi _ e=> .inr jZ)
 have hb1:W1.heap[w.heap.size]?=some (.cells (x.blk a) 136 (0,0)):=by rw [hW1];exact setRow_heap _ _ _ _ _ _ (heap_alloc_new w _)
 clear hW1;obtain⟨F,hF⟩:∃F,F=w.heap.size:=⟨_,rfl⟩;rw [<-hF] at hb1⊢;have nFB:¬B=F:=j8;have hFw:w.heap.size<=F:=j8;obtain⟨Hk1,Hb1,HF⟩:=hid3 hk1 hb1 hF;clear hF hb1 hk1;refine Al (fkA B (.pointer (some ⟨x.bl,0,none⟩)) (.pointer (some ⟨x.bb,0,none⟩)) x.vi x.va) (.take 0 (.take 1 (.take 2 (.take 3 (.take 5 (.take 6 (.take 7 (.take 8 (.move 4 (.move 9 (.take 10 (.move 11 (.take 12 (.move 13 .done)))))))))))))) j9 j9 ?_ ?_
 ·exact(HA0.out.keep Hk1.out (by simp)).keep (Keeps.drew (S:=λ_=>False) _) (by simp)
 intro w2 hs2 hk2;have hk02:=Hk1.out.nt hk2;have Hs2:=Lib.hid hs2;clear hs2;refine je ?_;intro K hK
 go_at_call 124
 ((with_reducible refine(Hfk.out w2 hk02).mono ?_);rintro e w3 ⟨bl,vl,rfl,hdl3,hk3,hbl,hvl⟩)
 dsimp only;have hs3:=Hs2.out.keep hk3 (by simp);refine hK.out _ _ (by exact hs3) ?_;clear hK K;refine jh ?_;have hk03:=hk02.nt hk3;refine jc ?_;intro K hK
 go_at_call 125
 ((with_reducible refine(Hfb.out w3 hk03).mono ?_);rintro e w4 ⟨bb,vb,rfl,hbk4,hk4,hbb⟩)
 dsimp only;have hs4:=hs3.keep hk4 (by simp);refine hK.out _ _ (by exact hs4) ?_;clear hK K;refine ja ?_;have hk04:=hk03.nt hk4;have hb4:=Ad Hb1.out ((hk2.nt hk3).nt hk4) (by simp);have b9:=Aa hb4 9;have b10:=Aa hb4 10;have f9:=Ab hb4 9;have f10:=Ab hb4 10;have l4:=lt_of_block hb4;have hdl4:=hdl3.keepS hk4 (by simp) (by simp) (by simp);have hbl':w.heap.size<=bl:=Nat.le_trans hk02.size hbl;have hvl':∀b,vl.ownBlock=some b->w.heap.size<=b:=λb hb=>Nat.le_trans hk02.size (hvl b hb);have hbb':∀b,Foot bb vb b->w.heap.size<=b:=λb hb=>Nat.le_trans hk03.size (hbb b hb);have Hs4:=Lib.hid hs4;clear hs3 hs4 hk2 hk3 hk4 hbl hvl hbb hdl3 hk02 hk03;obtain⟨Hk04,Hb4,Hdl4,Hbk4,Hbl',Hvl',Hbb'⟩:=hid7 hk04 hb4 hdl4 hbk4 hbl' hvl' hbb';clear hbb' hvl' hbl' hbk4 hdl4 hb4 hk04;refine je ?_;intro K hK;refine hK.out _ _ (by exact Hs4.out.keep j4m nFB) ?_;clear hK K;refine jh ?_;refine jc ?_;intro K hK;refine hK.out _ _ (by exact(Hs4.out.keep j4m nFB).keep (Keeps.setCell (S:=λi=>i=F) _ ⟨F,10,none⟩ (.pointer (some ⟨bb,0,none⟩)) rfl) nFB) ?_;clear hK K;refine jt ?_;refine fk_letter λW5 hW5=> ?_;have hk45:Keeps (λi=>i=F) w4 W5:=by rw [hW5];exact((Keeps.refl _ _).setB _ _).setB _ _
 have hb5:=(heap_setCell_same _ _ 10 _ _ (.pointer (some ⟨bb,0,none⟩)) (heap_setCell_same _ _ 9 _ _ (.pointer (some ⟨bl,0,none⟩)) Hb4.out));rw [<-hW5] at hb5;have hk05:Keeps (λ_=>False) w W5:=Hk04.out.trans (hk45.mono λi _ e=> .inr (by have e':i=F:=e;omega));have hdl5:DL W5 bl a.t x.vtl a.L vl:=Hdl4.out.keepS hk45 (λe=>by have e':bl=F:=e;have:=Hdl4.out.blk;rw [e',Hb4.out] at this;simp at this) (λb hb e=>by have e':b=F:=e;exact Ai Hdl4.out.trs Hb4.out j7 (e'▸hb)) (λb hb e=>by have e':b=F:=e;exact Ai Hdl4.out.row Hb4.out j7 (e'▸hb))
 have hbk5:Cs W5 bb vb a.D:=Hbk4.out.keeps hk45 (by
  rintro b hb e;have e':b=F:=e;rcases hb with rfl|hb
  ·have:=Hbk4.out.blk;rw [e',Hb4.out] at this;simp at this
  ·exact Ai Hbk4.out.row Hb4.out (by decide) (e'▸hb))
 have x17:=(Hs4.out.keep hk45 nFB).2.2.2;have l5:=Ah x17;clear hW5 b9 b10 f9 f10 l4;obtain⟨Hk45,Hb5,Hk05,Hdl5,Hbk5⟩:=hid5 hk45 hb5 hk05 hdl5 hbk5;clear hbk5 hdl5 hk05 hb5 hk45;go_wp2_with fail;refine(Hca.out W5 Hk05.out).mono ?_;rintro e w6 ⟨va,rfl,hra6,hk6,hva⟩;have hb6:=Ad Hb5.out hk6 (by simp);have b17:=Aa hb6 17;have f17:=Ab hb6 17;have l6:=lt_of_block hb6;have hva':∀b,va.ownBlock=some b->w.heap.size<=b:=λb hb=>Nat.le_trans Hk05.out.size (hva b hb);obtain⟨aa,ca,rfl,_,_⟩:=Ae hra6;clear x17 l5 hva;obtain⟨Hra6,Hk6,Hb6,Hva'⟩:=hid4 hra6 hk6 hb6 hva';clear hva' hb6 hk6 hra6
 go_upto_region 6 with fail
 refine fk_wp λW7 hW7=> ?_;have hk67:Keeps (λi=>i=F) w6 W7:=by rw [hW7];exact(Keeps.refl _ _).setB _ _
 have hb7:=heap_setCell_same _ _ 17 _ _ (.slice aa a.adj.length ca) Hb6.out;rw [<-hW7] at hb7;have hk07:Keeps (λ_=>False) w W7:=(Hk05.out.nt Hk6.out).trans (hk67.mono λi _ e=> .inr (by have e':i=F:=e;omega));have hra7:=hk67.row Hra6.out λb hb e=>by have e':b=F:=e;exact Ai Hra6.out Hb6.out j7 (e'▸hb)
 have hdl6:=Hdl5.out.keepS Hk6.out (by simp) (by simp) (by simp);have hdl7:DL W7 bl a.t x.vtl a.L vl:=hdl6.keepS hk67 (λe=>by have e':bl=F:=e;have:=hdl6.blk;rw [e',Hb6.out] at this;simp at this) (λb hb e=>by have e':b=F:=e;exact Ai hdl6.trs Hb6.out j7 (e'▸hb)) (λb hb e=>by have e':b=F:=e;exact Ai hdl6.row Hb6.out j7 (e'▸hb));have hbk6:=Hbk5.out.keeps Hk6.out (by simp)
 have hbk7:Cs W7 bb vb a.D:=hbk6.keeps hk67 (by
  rintro b hb e;have e':b=F:=e;rcases hb with rfl|hb
  ·have:=hbk6.blk;rw [e',Hb6.out] at this;simp at this
  ·exact Ai hbk6.row Hb6.out (by decide) (e'▸hb))
 have x16:=((((Hs4.out.keep Hk45.out nFB).keep Hk6.out (by simp)).keep hk67 nFB)).2.2.1;have l7:=Ah x16;clear hW7 b17 f17 l6 hdl6 hbk6;obtain⟨Hk67,Hb7,Hk07,Hra7,Hdl7,Hbk7⟩:=hid6 hk67 hb7 hk07 hra7 hdl7 hbk7;clear hbk7 hdl7 hra7 hk07 hb7 hk67;go_wp2_with fail;refine(Hci.out W7 Hk07.out).mono ?_;rintro e w8 ⟨vi,rfl,hri8,hk8,hvi⟩;have hb8:=Ad Hb7.out hk8 (by simp);have b16:=Aa hb8 16;have f16:=Ab hb8 16;have l8:=lt_of_block hb8;have hvi':∀b,vi.ownBlock=some b->w.heap.size<=b:=λb hb=>Nat.le_trans Hk07.out.size (hvi b hb);obtain⟨ai,ci,rfl,_,_⟩:=Ae hri8;clear x16 l7 hvi;obtain⟨Hri8,Hk8,Hb8,Hvi'⟩:=hid4 hri8 hk8 hb8 hvi';clear hvi' hb8 hk8 hri8
 go_upto_region 7 with fail
 refine fk_wp λW9 hW9=> ?_;have hk89:Keeps (λi=>i=F) w8 W9:=by rw [hW9];exact(Keeps.refl _ _).setB _ _
 have hb9:=heap_setCell_same _ _ 16 _ _ (.slice ai x.I.length ci) Hb8.out;rw [<-hW9] at hb9;have hk09:Keeps (λ_=>False) w W9:=(Hk07.out.nt Hk8.out).trans (hk89.mono λi _ e=> .inr (by have e':i=F:=e;omega));have hri9:=hk89.row Hri8.out λb hb e=>by have e':b=F:=e;exact Ai Hri8.out Hb8.out j7 (e'▸hb)
 have hra8:=Hk8.out.row Hra7.out (by simp);have hra9:=hk89.row hra8 λb hb e=>by have e':b=F:=e;exact Ai hra8 Hb8.out j7 (e'▸hb)
 have hdl8:=Hdl7.out.keepS Hk8.out (by simp) (by simp) (by simp);have hdl9:DL W9 bl a.t x.vtl a.L vl:=hdl8.keepS hk89 (λe=>by have e':bl=F:=e;have:=hdl8.blk;rw [e',Hb8.out] at this;simp at this) (λb hb e=>by have e':b=F:=e;exact Ai hdl8.trs Hb8.out j7 (e'▸hb)) (λb hb e=>by have e':b=F:=e;exact Ai hdl8.row Hb8.out j7 (e'▸hb));have hbk8:=Hbk7.out.keeps Hk8.out (by simp)
 have hbk9:Cs W9 bb vb a.D:=hbk8.keeps hk89 (by
  rintro b hb e;have e':b=F:=e;rcases hb with rfl|hb
  ·have:=hbk8.blk;rw [e',Hb8.out] at this;simp at this
  ·exact Ai hbk8.row Hb8.out (by decide) (e'▸hb))
 obtain⟨x',r1,r2,r3⟩:=AcAt.forked (bl:=bl) (bb:=bb) (vl:=vl) (vb:=vb) (vi:= .slice ai x.I.length ci) (va:= .slice aa a.adj.length ca) H.out hk09 (hb9.trans rfl) hdl9 hbk9 hri9 hra9 j6 Hvi'.out Hva'.out Hbl'.out Hvl'.out Hbb'.out;clear hW9 b16 f16 l8;obtain⟨Hk89,Hb9,Hk09,Hri9,Hra8,Hra9,Hdl8,Hdl9,Hbk8⟩:=hid9 hk89 hb9 hk09 hri9 hra8 hra9 hdl8 hdl9 hbk8;clear hbk8 hdl9 hdl8 hra9 hra8 hri9 hk09 hb9 hk89;obtain⟨Hbk9,R1,R2,R3⟩:=hid4 hbk9 r1 r2 r3;clear r3 r2 r1 hbk9;go_wp2;go_ret;exact⟨F,x',rfl,R1.out,Hk09.out,R2.out,R3.out⟩
def TyAt(W:World)(b:Nat)(t:TypeId):Prop:=∃C fz,W.heap[b]?=some (.cells C t fz)
theorem TyAt.eq{W:World}{b:Nat}{t t':TypeId}(h:TyAt W b t)(h':TyAt W b t'):t=t':=by
 obtain⟨C,fz,h⟩:=h;obtain⟨C',fz',h'⟩:=h';rw [h] at h';injection h' with h';injection h' with _ he _
theorem TyAt.row{W:World}{base size n:Nat}{e:TypeId}{v:Value}{xs:List Value}(h:W.ownsRow base e size v n xs){g:Nat}(hg:v.ownBlock=some g):TyAt W g e:=by
 rcases h.2 with⟨hn,_⟩|⟨g',c',cur,hn,_,hgg,_⟩
 ·rw [hn] at hg;simp [Value.ownBlock] at hg
 ·rw [hn] at hg;have e':g'=g:=Option.some.inj hg;rw [<-e'];exact⟨_,_,hgg⟩
def accT:List TypeId:= [136,60,90,120,2,215,96,201,132,160]
theorem AcAt.ty{W:World}{B:Nat}{x:AcV}{a:Ac}(h:AcAt W B x a){b:Nat}(hb:AcF B x b\/x.rd b){t:TypeId}(ht:TyAt W b t):t∈accT:=by
 obtain⟨C,fz,ht⟩:=ht;by_cases hm:t∈accT
 ·exact hm
 ·exact absurd rfl (h.otherT ht (λs hs e=>hm (by rw [e];exact hs)) b hb)
structure SvV where
 S:Nat
 P:Nat
 J:Nat
 B:Nat
 v:Value
 vl:Value
 x:AcV
structure SvAt(W:World)(q:SvV)(p:Pd)(fl:Int)(u nr:Nat)(RL:List Value)(a:Ac):Prop where
 blk:W.heap[q.S]?=some (.cells #[(.pointer (some ⟨q.P,0,none⟩)),(.pointer (some ⟨q.J,0,none⟩)),(.pointer (some ⟨q.B,0,none⟩))] 112 (0,0))
 pad:PadAt W q.P q.v p
 jrn:JrnAt W q.J q.P fl q.vl u
 row:W.ownsRow 0 24 1 q.vl nr RL
 acc:AcAt W q.B q.x a
def JF(q:SvV)(k:Nat):Prop:=k=q.J\/PFoot q.P q.v k\/q.vl.ownBlock=some k
def SvF(q:SvV)(k:Nat):Prop:=k=q.S\/JF q k\/AcF q.B q.x k
section
variable {W W':World} {q:SvV} {p:Pd} {fl:Int} {u nr:Nat} {RL:List Value} {a:Ac}
theorem SvAt.tyJ(h:SvAt W q p fl u nr RL a){k:Nat}(hk:JF q k):∃t∈ [168,106,149,24],TyAt W k t:=by
 rcases hk with rfl|(rfl|hk)|hk
 ·exact⟨168,by decide,_,_,h.jrn.blk⟩
 ·exact⟨106,by decide,_,_,h.pad.blk⟩
 ·exact⟨149,by decide,.row h.pad.row hk⟩
 ·exact⟨24,by decide,.row h.row hk⟩
theorem SvAt.tyS(h:SvAt W q p fl u nr RL a):TyAt W q.S 112:=⟨_,_,h.blk⟩
theorem SvAt.jS(h:SvAt W q p fl u nr RL a):¬JF q q.S:=λe=>by
 obtain⟨t,ht,hy⟩:=h.tyJ e;have:=hy.eq h.tyS;subst this;exact absurd ht j7
theorem SvAt.jA(h:SvAt W q p fl u nr RL a){b:Nat}(hb:AcF q.B q.x b\/q.x.rd b):¬JF q b:=λe=>by
 obtain⟨t,ht,hy⟩:=h.tyJ e;have hm:=h.acc.ty hb hy;simp only [List.mem_cons,List.not_mem_nil,or_false] at ht;rcases ht with rfl|rfl|rfl|rfl<;>exact absurd hm j7
theorem SvAt.sA(h:SvAt W q p fl u nr RL a){b:Nat}(hb:AcF q.B q.x b\/q.x.rd b):¬b=q.S:=λe=>by
 subst e;exact absurd (h.acc.ty hb h.tyS) j7
theorem SvAt.lt(h:SvAt W q p fl u nr RL a){b:Nat}(hb:SvF q b\/q.x.rd b):b<W.heap.size:=by
 rcases hb with(rfl|(rfl|(rfl|hb)|hb)|hb)|hb
 ·exact lt_of_block h.blk
 ·exact lt_of_block h.jrn.blk
 ·exact lt_of_block h.pad.blk
 ·exact Cj h.pad.row hb
 ·exact Cj h.row hb
 ·exact h.acc.lt b (.inl hb)
 ·exact h.acc.lt b (.inr hb)
theorem SvAt.keeps{K:Nat->Prop}(h:SvAt W q p fl u nr RL a)(hk:Keeps K W W')(hK:∀b,SvF q b\/q.x.rd b->¬K b):SvAt W' q p fl u nr RL a:=
 ⟨Ad h.blk hk (hK _ (.inl (.inl rfl))),h.pad.keeps hk λk e=>hK k (.inl (.inr (.inl (.inr (.inl e))))),⟨Ad h.jrn.blk hk (hK _ (.inl (.inr (.inl (.inl rfl)))))⟩,hk.row h.row λk e=>hK k (.inl (.inr (.inl (.inr (.inr e))))),h.acc.keeps hk λb e=>hK b (e.elim (λe=> .inl (.inr (.inr e))) .inr)⟩
theorem SvAt.keep0(h:SvAt W q p fl u nr RL a)(hk:Keeps (λ_=>False) W W'):SvAt W' q p fl u nr RL a:=h.keeps hk (by simp)
theorem SvAt.post(h:SvAt W q p fl u nr RL a){a':Ac}(hp:Cf W q.B q.x a' W'):∃x',SvAt W' { q with x:=x' } p fl u nr RL a'/\Keeps (AcF q.B q.x) W W'/\(∀b,AcF q.B x' b->AcF q.B q.x b\/W.heap.size<=b)/\(∀b,x'.rd b->q.x.rd b\/W.heap.size<=b):=by
 obtain⟨x',h1,h2,h3,h4⟩:=hp;exact⟨x',⟨Ad h.blk h2 λe=>h.sA (.inl e) rfl,h.pad.keeps h2 λk e f=>h.jA (.inl f) (.inr (.inl e)),⟨Ad h.jrn.blk h2 λf=>h.jA (.inl f) (.inl rfl)⟩,h2.row h.row λk e f=>h.jA (.inl f) (.inr (.inr e)),h1⟩,h2,h3,h4⟩
end
theorem accDo_chB(B:Nat)(x:AcV)(a:Ac)(c:Cmd)(w:World)(h:AcAt w B x a)(hs:a.seq<=100000)(hc:chB c=true):
  Calls Tryz.prog 33 #[(.pointer (some ⟨B,0,none⟩)),.agg #[.int .i64 c.kind,.int .i64 c.day,.int .i64 c.tranche,.int .i64 c.amount,.int .i64 c.ref]] w λe w'=>e= .returned (.agg #[.int .i64 (a.dz c),.int .i64 (a.dr c),.int .i64 (a.dc c),.int .i64 0,.int .i64 0,.slice none 0 0,.int .i64 0,.int .i64 0,.slice none 0 0,.slice none 0 0,.int .i64 0,.int .i64 0,.int .i64 0,.int .i64 0,.int .i64 0,.slice none 0 0,.int .i64 0,.int .i64 0,.int .i64 0,.bool false])/\Cf w B x (a.act c) w':=by
 simp only [chB,Bool.and_eq_true,decide_eq_true_eq] at hc;by_cases h8:c.kind=8
 ·have:=Adg B x a c w h hs h8;unfold Ac.dz Ac.dr Ac.dc Ac.act;rw [if_pos h8,if_neg j6,if_pos h8,if_pos h8];exact this
 ·have:=accDo_chg B x a c w h hs j6;unfold Ac.dz Ac.dr Ac.dc Ac.act;rw [if_neg h8,if_neg j6,if_neg j6,if_neg j6,if_pos j6,if_pos j6,if_neg h8,if_neg h8,if_pos j6];exact this
theorem Ve(q:SvV)(p:Pd)(fl:Int)(u nr:Nat)(RL:List Value)(a:Ac)(w:World)(h:SvAt w q p fl u nr RL a)(hs:a.seq<=100000):Calls Tryz.prog 30 #[(.pointer (some ⟨q.S,0,none⟩))] w (FkPost w q.x a):=by
 have c2:=Aa h.blk 2;have l0:=lt_of_block h.blk;have hfk:=Rs q.B q.x a w h.acc hs;obtain⟨H,Hfk⟩:=hid2 h hfk;clear hfk h;go_enter Tryz.func30,Tryz.ntmps30;go_wp2_with fail;refine Hfk.out.mono ?_;rintro e w' ⟨F,x',rfl,h1⟩;have H1:=Lib.hid h1;clear h1;go_wp2;go_ret;exact⟨F,x',rfl,H1.out⟩
theorem svPad_nil(w:World):Calls Tryz.prog 35 #[.pointer none] w λe w'=>e= .returned (.pointer none)/\w=w':=by
 go_enter Tryz.func35,Tryz.ntmps35;exact ji
theorem Vd(w:World):Calls Tryz.prog 30 #[.pointer none] w λe w'=>e= .returned (.pointer none)/\w=w':=by
 go_enter Tryz.func30,Tryz.ntmps30;exact ji
section
open Go.ChangeShapes Go.WideShapes Go.ChangeAt Go.RowKit Go.Deep
theorem own:ownKnob Tryz.prog.godebug=none:=by kernel_rfl
theorem laidOut:laidOutB Tryz.prog=true:=by kernel_rfl
section
variable {H:Type} {enc:TypeId×Value->H} {w:World} {spare:Nat->Bool} {held:Bool}
theorem list_of{α:Type}{p:Nat->α->Prop}:∀n:Nat,(∀i,i<n->∃a,p i a)->∃L:List α,L.length=n/\∀i (a:α),L[i]?=some a->p i a
 |0,_=>⟨[],rfl,λi a h=>by simp at h⟩
 |n+1,h=>by
  obtain⟨L,h1,h2⟩:=list_of n λi hi=>h i (by omega);obtain⟨a,ha⟩:=h n (by omega);refine⟨L++ [a],by simp [h1],λi b hb=> ?_⟩;rcases Nat.lt_or_ge i n with hi|hi
  ·rw [List.getElem?_append_left (by omega)] at hb;exact h2 i b hb
  ·rw [List.getElem?_append_right (by omega),h1] at hb
   obtain rfl:i=n:=by
    rcases Nat.lt_or_ge n i with h'|h'
    ·rw [List.getElem?_eq_none (by simp;omega)] at hb;simp at hb
    ·omega
   simp at hb;subst hb;exact ha
theorem flat_at{α:Type}{f:α->List Value}{size:Nat}(hf:∀x,(f x).length=size)(hs:0<size){L:List α}{j:Nat}{u:Value}(h:(L.flatMap f)[j]?=some u):∃a,L[j / size]?=some a/\(f a)[j % size]?=some u:=by
 have hj:j<L.length*size:=by rw [<-Cm hf L];exact Db h
 have hk:j / size<L.length:=Nat.div_lt_of_lt_mul (by rw [Nat.mul_comm];exact hj);refine⟨L[j / size],List.getElem?_eq_getElem hk, ?_⟩;have:=flat_get hf (List.getElem?_eq_getElem hk) (Nat.mod_lt j hs);rw [<-this,Nat.mul_comm,Nat.div_add_mod];exact h
theorem Acd{α:Type}{f:α->List Value}{size:Nat}(hf:∀x,(f x).length=size)(hs:0<size){p:α->Prop}{t e:TypeId}{fuel:Nat}{ad:Option Addr}{len cap:Nat}{x:DataW H×List MemPlace}
  (ht:Tryz.prog.underlying t=some (.slice e)) (hc:Tryz.prog.cellsOf e=size)
  (hel:∀n cs d,DataW.trod enc Tryz.prog w 0 spare held n e cs=some d->∃a:α,cs=f a/\p a)
  (h:DataW.trod enc Tryz.prog w 0 spare held fuel t [.slice ad len cap]=some x):
  ∃L:List α,L.length=len/\Reads w size (.slice ad len cap) L.length (L.flatMap f)/\(∀a∈L,p a)/\L.length<=maxLen:=by
 rcases open_slice ht h with⟨h0,_⟩|⟨a,len',cap',m,n,D,Pl,h0,_,hl,hm,hmm,_,hx⟩
 ·simp only [List.cons.injEq,and_true,Value.slice.injEq] at h0;obtain⟨rfl,rfl,rfl⟩:=h0;exact⟨[],rfl,Reads.nil _ _,by simp,Nat.zero_le _⟩
 ·simp only [List.cons.injEq,and_true,Value.slice.injEq] at h0;obtain⟨rfl,rfl,rfl⟩:=h0;rw [hc] at hx;have hlm:len<=m:=by rw [hmm];split<;>omega
  obtain⟨L,hL,hLp⟩:=list_of (p:=λi (b:α)=>w.cells? 0 (a.add (i*size)) size=some (f b)/\p b) len λi hi=>by
   obtain⟨cs,h1,h2⟩:=hx i j6;obtain⟨b,rfl,hb⟩:=hel _ _ _ h2;exact⟨b,h1,hb⟩
  refine⟨L,hL,⟨some a,cap,by rw [hL],by omega,Cm hf L,by simp,λj u hj=> ?_⟩,λb hb=> ?_,by omega⟩
  ·obtain⟨b,hb,hu⟩:=flat_at hf hs hj;obtain⟨h1,_⟩:=hLp _ b hb;obtain⟨_,hlen,hcell⟩:=World.cells?_some h1;have hc1:=hcell (j % size) (Nat.mod_lt j hs);rw [hu] at hc1
   have hadd:((a.add (j / size*size)).add (j % size))=a.add j:=by
    have hj:j / size*size+j % size=j:=by rw [Nat.mul_comm];exact Nat.div_add_mod j size
    unfold Addr.add
    split<;>split<;>split<;>simp_all<;>omega
   rw [hadd] at hc1;obtain⟨ab,ao,asp⟩:=a;rcases asp with _|sp
   ·exact⟨ab,ao,rfl,by rw [<-Dx];exact hc1⟩
   ·-- an address with a spot reads no cell at its own place
    exfalso
    have hk:0<L.length:=by
     rcases Nat.eq_zero_or_pos L.length with h'|h'
     ·rw [List.eq_nil_of_length_eq_zero h'] at hj;simp at hj
     ·exact h'
    obtain⟨h1',_⟩:=hLp 0 _ (List.getElem?_eq_getElem hk);obtain⟨_,hlen',hcell'⟩:=World.cells?_some h1';have hc0:=hcell' 0 hs;rw [List.getElem?_eq_getElem j6] at hc0;unfold World.cell? at hc0;simp only [Nat.zero_mul,Addr.add,if_true] at hc0
    split at hc0<;>simp at hc0
  ·obtain⟨i,hi⟩:=List.getElem?_of_mem hb;exact(hLp i b hi).2
theorem elem_int{k:IntKind}{e:TypeId}(he:Tryz.prog.underlying e=some (.int k))(n:Nat)(cs:List Value)(d:DataW H×List MemPlace)(h:DataW.trod enc Tryz.prog w 0 spare held n e cs=some d):∃a:Int,cs= [.int k a]/\(Lit.int k a).wf=true:=by
 obtain⟨a,h1,_,h2⟩:=DataW.trod_int he h;exact⟨a,h1,h2⟩
end
end
open Go.ChangeShapes Go.WideShapes Go.ChangeAt Go.RowKit Go.Deep
def Cmd.wf(a:Cmd):Prop:=(Lit.int .i64 a.kind).wf=true/\(Lit.int .i64 a.day).wf=true/\(Lit.int .i64 a.tranche).wf=true/\(Lit.int .i64 a.amount).wf=true/\(Lit.int .i64 a.ref).wf=true
theorem Aah{H:Type}{enc:TypeId×Value->H}{w:World}{spare:Nat->Bool}{held:Bool}(n:Nat)(cs:List Value)(d:DataW H×List MemPlace)(h:DataW.trod enc Tryz.prog w 0 spare held n 23 cs=some d):∃a:Cmd,cs=a.cells/\a.wf:=by
 obtain⟨xs,m,rfl,_,hlen,hxs,hf⟩:=DataW.trod_struct Tryz.underlying23 h;have hl:cs.length=5:=hlen.trans j9;have hx:xs.length=5:=hxs;have g0:=hf 0 _ rfl;rw [show Tryz.prog.cellsOf _=1 from by kernel_rfl,List.getElem?_eq_getElem (show 0<xs.length by omega)] at g0;have g1:=hf 1 _ rfl;rw [show Tryz.prog.cellsOf _=1 from by kernel_rfl,List.getElem?_eq_getElem (show 1<xs.length by omega)] at g1;have g2:=hf 2 _ rfl;rw [show Tryz.prog.cellsOf _=1 from by kernel_rfl,List.getElem?_eq_getElem (show 2<xs.length by omega)] at g2;have g3:=hf 3 _ rfl;rw [show Tryz.prog.cellsOf _=1 from by kernel_rfl,List.getElem?_eq_getElem (show 3<xs.length by omega)] at g3;have g4:=hf 4 _ rfl;rw [show Tryz.prog.cellsOf _=1 from by kernel_rfl,List.getElem?_eq_getElem (show 4<xs.length by omega)] at g4
 match cs,hl with
 | [c0,c1,c2,c3,c4],_=>
  obtain⟨a0,e0,_,w0⟩:=DataW.trod_int Tryz.underlying3 g0;simp at e0;subst e0;obtain⟨a1,e1,_,w1⟩:=DataW.trod_int Tryz.underlying3 g1;simp at e1;subst e1;obtain⟨a2,e2,_,w2⟩:=DataW.trod_int Tryz.underlying3 g2;simp at e2;subst e2;obtain⟨a3,e3,_,w3⟩:=DataW.trod_int Tryz.underlying2 g3;simp at e3;subst e3;obtain⟨a4,e4,_,w4⟩:=DataW.trod_int Tryz.underlying3 g4;simp at e4;subst e4;exact⟨⟨a0,a1,a2,a3,a4⟩,rfl,w0,w1,w2,w3,w4⟩
open Go.RowKit Go.IntWalk
def Cmd.nums(c:Cmd):List Int:= [c.kind,c.day,c.tranche,c.amount,c.ref]
def Px(w:World)(B:List Int)(e:Ending)(w':World):Prop:=∃v,e= .returned v/\w'.ownsRow 0 5 1 v B.length (B.flatMap u8c)/\Keeps (λ_=>False) w w'/\∀g,v.ownBlock=some g->w.heap.size<=g
theorem Nq(c:Cmd)(w:World):Calls Tryz.prog 14 #[.agg #[.int .i64 c.kind,.int .i64 c.day,.int .i64 c.tranche,.int .i64 c.amount,.int .i64 c.ref]] w (Px w (packN c.nums)):=by
 obtain⟨ki,da,tr,am,re⟩:=c;obtain⟨w1,hw1⟩:∃W,W=(w.alloc (.cells #[.int .i64 ki,.int .i64 da,.int .i64 tr,.int .i64 am,.int .i64 re] 23)).alloc (.cells #[.int .i64 ki,.int .i64 da,.int .i64 tr,.int .i64 am,.int .i64 re] 2):=⟨_,rfl⟩;have hk1:Keeps (λ_=>False) w w1:=by rw [hw1];exact Keeps.nt (Keeps.alloc _ _) (Keeps.alloc _ _)
 have hr1:Reads w1 1 (.slice (some ⟨w.heap.size+1,0,none⟩) 5 5) 5 ((Cmd.nums ⟨ki,da,tr,am,re⟩).flatMap i64c):=by
  rw [hw1];have:=Reads.lit (w.alloc (.cells #[.int .i64 ki,.int .i64 da,.int .i64 tr,.int .i64 am,.int .i64 re] 23)) #[.int .i64 ki,.int .i64 da,.int .i64 tr,.int .i64 am,.int .i64 re] 2 1 5 rfl
  simpa [Cmd.nums,i64c] using this
 have hp:=Ld (.slice none 0 0) [] (some ⟨w.heap.size+1,0,none⟩) 5 (Cmd.nums ⟨ki,da,tr,am,re⟩) w1 (World.ownsRow_nil _ _ _ _) hr1 (by simp [Value.ownBlock]) (by simp [Cmd.nums]);obtain⟨Hw1,Hk1,Hr1,Hp⟩:=hid4 hw1 hk1 hr1 hp;clear hp hr1 hk1 hw1;go_enter Tryz.func14,Tryz.ntmps14;go_wp2_with fail;rw [<-Hw1.out];refine Hp.out.mono ?_;rintro e w2 ⟨v2,rfl,hg⟩;have hrow:=hg.row;have hk2:Keeps (λ_=>False) w1 w2:=hg.kp.mono λk _ e=>by simp [Value.ownBlock] at e
 have hnw:∀g,v2.ownBlock=some g->w.heap.size<=g:=by
  intro g hgb;rcases hg.nw with e|⟨g',hg',hh⟩
  ·rw [hgb] at e;simp [Value.ownBlock] at e
  ·rw [hgb] at hg';have:=Option.some.inj hg';have:=Hk1.out.size;omega
 rw [List.nil_append] at hrow;clear hg;obtain⟨Hrow,Hk2,Hnw⟩:=hid3 hrow hk2 hnw;clear hnw hk2 hrow;go_wp2;go_ret;exact⟨v2,rfl,Hrow.out,Keeps.nt Hk1.out Hk2.out,Hnw.out⟩
def takeC(B:List Int):Cmd:=if B.length=40 then⟨numAt B 0,numAt B 1,numAt B 2,numAt B 3,numAt B 4⟩ else⟨0,0,0,0,0⟩
def takeE(B:List Int):Int:=if B.length<40 then 3 else if 40<B.length then 4 else 0
theorem Ce:(Tryz.prog.info? 23).map (·.size)=some 5:=by kernel_rfl
def z5:Array Value:= #[.int .i64 0,.int .i64 0,.int .i64 0,.int .i64 0,.int .i64 0]
theorem one_z5:z5.all (·.oneCell')=true:=by simp [z5,Value.oneCell']
theorem Tc(ad:Option Addr)(cap:Nat)(B:List Int)(w:World)(hr:Reads w 1 (.slice ad B.length cap) B.length (B.flatMap u8c))(hB:∀z∈B,0<=z/\z<=255)(hBl:B.length<=1000000)(hlo:0<B.length->∀g,(Value.slice ad B.length cap).ownBlock=some g->g<w.heap.size):
  Calls Tryz.prog 13 #[.slice ad B.length cap] w λe w'=>e= .returned (.tuple #[.agg #[.int .i64 (takeC B).kind,.int .i64 (takeC B).day,.int .i64 (takeC B).tranche,.int .i64 (takeC B).amount,.int .i64 (takeC B).ref],.int .i64 (takeE B)])/\Keeps (λ_=>False) w w':=by
 have hnew:=λW (hW:Keeps (λ_=>False) w W)=>Abv w.heap.size ad cap B W (hr.keeps hW (λ_ _ h=>h)) hlo hW.size;obtain⟨m,hm⟩:∃m,B.length=m:=⟨_,rfl⟩;have hE:takeE B=if m<40 then 3 else if 40<m then 4 else 0:=by unfold takeE;rw [hm]
 have hC:takeC B=if m=40 then⟨numAt B 0,numAt B 1,numAt B 2,numAt B 3,numAt B 4⟩ else⟨0,0,0,0,0⟩:=by unfold takeC;rw [hm]
 rw [hm] at hnew hBl⊢
 have hdone:∀(w1:World) (cs:Array Value) (r:Int),Keeps (λ_=>False) w w1->w1.heap[w.heap.size]?=some (.cells z5 23 (0,0))->(w1.setRow w.heap.size cs).heap[w.heap.size]?=some (.cells cs 23 (0,0))/\Keeps (λ_=>False) w (w1.setRow w.heap.size cs):=λw1 cs r h1 h2=>
  ⟨setRow_heap _ _ _ _ _ _ h2,h1.trans ((Keeps.setRow _ _ _).mono λk _ e=> .inr (Nat.le_of_eq e.symm))⟩
 rcases Nat.lt_trichotomy m 40 with h|h|h
 ·have hI:(m:Int)<40:=j8;rw [hE,hC,if_pos h,if_neg j6];obtain⟨Hnew,Hm,Hdone⟩:=hid3 hnew hm hdone;clear hdone hm hnew;go_enter Tryz.func13,Tryz.ntmps13
  go_wp2_with (first|(go_at_call 50;(with_reducible refine(Hnew.out _ (Keeps.alloc _ _)).mono ?_);rintro e w1 ⟨rfl,hr1,hk1⟩;have hb1:w1.heap[w.heap.size]?=some (.cells z5 23 (0,0)):=(Ad (heap_alloc_new w _) hk1 (by simp));have hk1:=Keeps.nt (Keeps.alloc (S:=λ_=>False) _ _) hk1;have Hk1:=Lib.hid hk1;have Hb1:=Lib.hid hb1;have Hr1:=Lib.hid hr1;clear hk1 hb1 hr1)|(refine wpList_store_row rfl 23 (.tmp 2) (.tmp 11) rfl w.heap.size z5 rfl rfl 23 z5 Hb1.out Ce rfl one_z5 ?_))
  exact j4n
 ·have hI:(m:Int)=40:=j8;subst h;obtain⟨n0,h0⟩:∃z,numAt B 0=z:=⟨_,rfl⟩;obtain⟨n1,h1⟩:∃z,numAt B 1=z:=⟨_,rfl⟩;obtain⟨n2,h2⟩:∃z,numAt B 2=z:=⟨_,rfl⟩;obtain⟨n3,h3⟩:∃z,numAt B 3=z:=⟨_,rfl⟩;obtain⟨n4,h4⟩:∃z,numAt B 4=z:=⟨_,rfl⟩;have q0:numR B 0=n0:=by unfold numR;rw [if_pos j6];exact h0
  have q1:numR B 1=n1:=by unfold numR;rw [if_pos j6];exact h1
  have q2:numR B 2=n2:=by unfold numR;rw [if_pos j6];exact h2
  have q3:numR B 3=n3:=by unfold numR;rw [if_pos j6];exact h3
  have q4:numR B 4=n4:=by unfold numR;rw [if_pos j6];exact h4
  have hE':takeE B=0:=by rw [hE];simp
  rw [hE',hC,if_pos rfl,h0,h1,h2,h3,h4];obtain⟨Hnew,Hm,Hdone,H0,H1,H2,H3,H4,Q0⟩:=hid9 hnew hm hdone h0 h1 h2 h3 h4 q0;clear q0 h4 h3 h2 h1 h0 hdone hm hnew;obtain⟨Q1,Q2,Q3,Q4,HB⟩:=hid5 q1 q2 q3 q4 hB;clear hB q4 q3 q2 q1;go_enter Tryz.func13,Tryz.ntmps13
  go_wp2_with (first|(go_at_call 51;(with_reducible refine(Sj Hr5.out jG HB.out Q4.out).mono ?_);rintro e w6 ⟨rfl,hr6,hk6⟩;have hb6:=Lib.hid (Ad Hb5.out hk6 j6);have hk6':=Lib.hid (Hk5.out.trans (hk6.mono λk _ e=> .inr j6));have Hr6:=Lib.hid hr6;have Hb6:=hb6;have Hk6:=hk6';clear hr6 hk6 hb6 hk6')|(go_at_call 52;(with_reducible refine(wNum_at Hr4.out jG HB.out Q3.out).mono ?_);rintro e w5 ⟨rfl,hr5,hk5⟩;have hb5:=Lib.hid (Ad Hb4.out hk5 j6);have hk5':=Lib.hid (Hk4.out.trans (hk5.mono λk _ e=> .inr j6));have Hr5:=Lib.hid hr5;have Hb5:=hb5;have Hk5:=hk5';clear hr5 hk5 hb5 hk5')|(go_at_call 51;(with_reducible refine(Sj Hr3.out jG HB.out Q2.out).mono ?_);rintro e w4 ⟨rfl,hr4,hk4⟩;have hb4:=Lib.hid (Ad Hb3.out hk4 j6);have hk4':=Lib.hid (Hk3.out.trans (hk4.mono λk _ e=> .inr j6));have Hr4:=Lib.hid hr4;have Hb4:=hb4;have Hk4:=hk4';clear hr4 hk4 hb4 hk4')|(go_at_call 51;(with_reducible refine(Sj Hr2.out jG HB.out Q1.out).mono ?_);rintro e w3 ⟨rfl,hr3,hk3⟩;have hb3:=Lib.hid (Ad Hb2.out hk3 j6);have hk3':=Lib.hid (Hk2.out.trans (hk3.mono λk _ e=> .inr j6));have Hr3:=Lib.hid hr3;have Hb3:=hb3;have Hk3:=hk3';clear hr3 hk3 hb3 hk3')|(go_at_call 51;(with_reducible refine(Sj Hr1.out jG HB.out Q0.out).mono ?_);rintro e w2 ⟨rfl,hr2,hk2⟩;have hb2:=Lib.hid (Ad Hb1.out hk2 j6);have hk2':=Lib.hid (Hk1.out.trans (hk2.mono λk _ e=> .inr j6));have Hr2:=Lib.hid hr2;have Hb2:=hb2;have Hk2:=hk2';clear hr2 hk2 hb2 hk2')|(go_at_call 50;(with_reducible refine(Hnew.out _ (Keeps.alloc _ _)).mono ?_);rintro e w1 ⟨rfl,hr1,hk1⟩;have hb1:w1.heap[w.heap.size]?=some (.cells z5 23 (0,0)):=(Ad (heap_alloc_new w _) hk1 (by simp));have hk1:=Keeps.nt (Keeps.alloc (S:=λ_=>False) _ _) hk1;have Hk1:=Lib.hid hk1;have Hb1:=Lib.hid hb1;have hr1':WRd w.heap.size w1 (w.heap.size+1) B 0:=(by simpa using hr1);have Hr1:=Lib.hid hr1';clear hk1 hb1 hr1 hr1')|(refine wpList_store_row rfl 23 (.tmp 2) (.tmp 27) rfl w.heap.size #[.int .i64 n0,.int .i64 n1,.int .i64 n2,.int .i64 n3,.int .i64 n4] rfl rfl 23 z5 Hb6.out Ce rfl jg ?_))
  exact bodyPost_ret (Cb rfl _ _ w.heap.size 23 #[.int .i64 n0,.int .i64 n1,.int .i64 n2,.int .i64 n3,.int .i64 n4] _ _ _ rfl rfl (Hdone.out w6 _ 0 Hk6.out Hb6.out).1 Tryz.underlying23 rfl Ce) rfl ⟨rfl,(Hdone.out w6 _ 0 Hk6.out Hb6.out).2⟩
 ·have hI:(40:Int)<(m:Int):=j8;have hI2:¬(m:Int)<40:=j8;rw [hE,hC,if_neg j6,if_pos h,if_neg j6];obtain⟨Hnew,Hm,Hdone⟩:=hid3 hnew hm hdone;clear hdone hm hnew;go_enter Tryz.func13,Tryz.ntmps13
  go_wp2_with (first|(go_at_call 50;(with_reducible refine(Hnew.out _ (Keeps.alloc _ _)).mono ?_);rintro e w1 ⟨rfl,hr1,hk1⟩;have hb1:w1.heap[w.heap.size]?=some (.cells z5 23 (0,0)):=(Ad (heap_alloc_new w _) hk1 (by simp));have hk1:=Keeps.nt (Keeps.alloc (S:=λ_=>False) _ _) hk1;have Hk1:=Lib.hid hk1;have Hb1:=Lib.hid hb1;have Hr1:=Lib.hid hr1;clear hk1 hb1 hr1)|(refine wpList_store_row rfl 23 (.tmp 2) (.tmp 16) rfl w.heap.size z5 rfl rfl 23 z5 Hb1.out Ce rfl one_z5 ?_))
  exact j4n
open Go.RowKit
def Newer(w:World)(q q':SvV):Prop:=q'.S=q.S/\q'.P=q.P/\q'.v=q.v/\(∀b,SvF q' b->SvF q b\/w.heap.size<=b)/\(∀b,q'.x.rd b->q.x.rd b\/w.heap.size<=b)
theorem Newer.refl(w:World)(q:SvV):Newer w q q:=⟨rfl,rfl,rfl,λ_ h=> .inl h,λ_ h=> .inl h⟩
theorem Newer.up{w W:World}{q q':SvV}(h:Newer W q q')(hk:w.heap.size<=W.heap.size):Newer w q q':=⟨h.1,h.2.1,h.2.2.1,λb hb=>(h.2.2.2.1 b hb).imp id λe=>by omega,λb hb=>(h.2.2.2.2 b hb).imp id λe=>by omega⟩
theorem Qx{P:Program}{c:Code}{Q:Exit->Act->World->Prop}{a:Act}{w:World}(h:∀W,W=w->c.wp P Q a W):c.wp P Q a w:=h w rfl
def SvChg(w:World)(q:SvV)(p':Pd)(fl:Int)(u' nr':Nat)(a':Ac)(z r y:Int)(e:Ending)(w':World):Prop:=e= .returned (.agg #[.int .i64 z,.int .i64 r,.int .i64 y,.int .i64 0,.int .i64 0,.slice none 0 0,.int .i64 0,.int .i64 0,.slice none 0 0,.slice none 0 0,.int .i64 0,.int .i64 0,.int .i64 0,.int .i64 0,.int .i64 0,.slice none 0 0,.int .i64 0,.int .i64 0,.int .i64 0,.bool false])/\∃q' R',SvAt w' q' p' fl u' nr' R' a'/\Newer w q q'/\Keeps (SvF q) w w'
theorem SvChg.same{w w':World}{q:SvV}{p:Pd}{fl:Int}{u nr:Nat}{RL:List Value}{a:Ac}{z r y:Int}(h:SvAt w q p fl u nr RL a)(hk:Keeps (λ_=>False) w w'):SvChg w q p fl u nr a z r y (.returned (.agg #[.int .i64 z,.int .i64 r,.int .i64 y,.int .i64 0,.int .i64 0,.slice none 0 0,.int .i64 0,.int .i64 0,.slice none 0 0,.slice none 0 0,.int .i64 0,.int .i64 0,.int .i64 0,.int .i64 0,.int .i64 0,.slice none 0 0,.int .i64 0,.int .i64 0,.int .i64 0,.bool false])) w':=
 ⟨rfl,q,RL,h.keep0 hk,Newer.refl _ _,hk.mono (by simp)⟩
def AddTo(q:SvV)(fl:Int)(z:Int)(p':Pd)(u' nr':Nat)(V:World)(e:Ending)(V':World):Prop:=e= .returned (.int .i64 z)/\∃vl' R',JrnAt V' q.J q.P fl vl' (u':Nat)/\V'.ownsRow 0 24 1 vl' nr' R'/\PadAt V' q.P q.v p'/\Keeps (JF q) V V'/\(∀g,vl'.ownBlock=some g->q.vl.ownBlock=some g\/V.heap.size<=g)
theorem sv_at3(w:World)(a b c:Obj):(((w.alloc a).alloc b).alloc c).heap[w.heap.size+1+1]?=some c:=by have:=heap_alloc_new ((w.alloc a).alloc b) c;simpa using this
theorem SvAt.setAns{W:World}{q:SvV}{p:Pd}{fl:Int}{u nr R:Nat}{RL:List Value}{a:Ac}{C C':Array Value}(h:SvAt W q p fl u nr RL a)(hR:W.heap[R]?=some (.cells C 62 (0,0))):SvAt (W.setRow R C') q p fl u nr RL a:=
 h.keeps (Co W R C') λb hb e=>by
  have e':b=R:=e;have hy:TyAt W b 62:=⟨_,_,e'▸hR⟩;rcases hb with(rfl|hb|hb)|hb
  ·exact absurd (hy.eq h.tyS) (by decide)
  ·obtain⟨t,ht,hy'⟩:=h.tyJ hb;have:=hy.eq hy';subst this;exact absurd ht (by decide)
  ·exact absurd (h.acc.ty (.inl hb) hy) (by decide)
  ·exact absurd (h.acc.ty (.inr hb) hy) (by decide)
theorem SvAt.add{W W':World}{q:SvV}{p p':Pd}{fl _z:Int}{u nr u' nr':Nat}{RL R':List Value}{a:Ac}{vl':Value}(h:SvAt W q p fl u nr RL a)(hj:JrnAt W' q.J q.P fl vl' (u':Nat))(hr:W'.ownsRow 0 24 1 vl' nr' R')(hp:PadAt W' q.P q.v p')(hk:Keeps (JF q) W W'):
  SvAt W' { q with vl:=vl' } p' fl u' nr' R' a:=⟨Ad h.blk hk h.jS,hp,hj,hr,h.acc.keeps hk λ_b hb e=>h.jA hb e⟩
theorem SvAt.swap{W:World}{q:SvV}{p:Pd}{fl:Int}{u nr F:Nat}{RL:List Value}{a a':Ac}{x':AcV}(h:SvAt W q p fl u nr RL a)(hA:AcAt W F x' a'):SvAt (W.setCell ⟨q.S,2,none⟩ (.pointer (some ⟨F,0,none⟩))) { q with B:=F,x:=x' } p fl u nr RL a':=by
 have hk:Keeps (λi=>i=q.S) W (W.setCell ⟨q.S,2,none⟩ (.pointer (some ⟨F,0,none⟩))):=Keeps.setCell _ _ _ rfl;refine⟨(heap_setCell_same _ _ 2 _ _ (.pointer (some ⟨F,0,none⟩)) h.blk).trans rfl,h.pad.keeps hk λk hf e=> ?_,⟨Ad h.jrn.blk hk λe=> ?_⟩,hk.row h.row λk hf e=> ?_,hA.keeps hk λb hb e=> ?_⟩
 ·have e':k=q.S:=e;exact h.jS (e'▸ .inr (.inl hf))
 ·exact h.jS (e▸ .inl rfl)
 ·have e':k=q.S:=e;exact h.jS (e'▸ .inr (.inr hf))
 ·have e':b=q.S:=e;exact absurd (hA.ty hb (e'▸h.tyS)) j7
theorem AcAt.addK{W W':World}{q:SvV}{p:Pd}{fl:Int}{u nr F:Nat}{RL:List Value}{a a':Ac}{x':AcV}(h:SvAt W q p fl u nr RL a)(hA:AcAt W F x' a')(hk:Keeps (JF q) W W'):AcAt W' F x' a':=
 hA.keeps hk λb hb e=>by
  obtain⟨t,ht,hy⟩:=h.tyJ e;have hm:=hA.ty hb hy;simp only [List.mem_cons,List.not_mem_nil,or_false] at ht;rcases ht with rfl|rfl|rfl|rfl<;>exact absurd hm (by decide)
theorem Fz(a b c d e:Int):(packN [a,b,c,d,e]).length=40:=by simp [packN,Bu]
def sv13(S J m:Nat)(k d t am r:Int)(w:World):Prop:=(w.cell? ⟨S,1,none⟩=some (.pointer (some ⟨J,0,none⟩))/\S<w.heap.size)/\w.heap[m]?=some (.cells #[.int .i64 k,.int .i64 d,.int .i64 t,.int .i64 am,.int .i64 r] 23 (0,0))
theorem sv13.keep{S J m:Nat}{k d t am r:Int}{w w':World}{K:Nat->Prop}(h:sv13 S J m k d t am r w)(hk:Keeps K w w')(h1:¬K S)(h2:¬K m):sv13 S J m k d t am r w':=⟨⟨(hk.cell h.1.2 h1).trans h.1.1,Nat.lt_of_lt_of_le h.1.2 hk.size⟩,Ad h.2 hk h2⟩
theorem svDo_add(q:SvV)(p p':Pd)(fl z:Int)(u nr u' nr':Nat)(RL:List Value)(a:Ac)(c:Cmd)(w:World)(h:SvAt w q p fl u nr RL a)(hs:a.seq<=100000)(hc:chB c=true)(hd:p.dn=false/\p.fl=fl)(hz:a.dz c=0)
  (hadd:∀V ad cap,JrnAt V q.J q.P fl q.vl u->V.ownsRow 0 24 1 q.vl nr RL->PadAt V q.P q.v p->Reads V 1 (.slice ad 40 cap) 40 ((packN c.nums).flatMap u8c)->(∀k,(Value.slice ad 40 cap).ownBlock=some k->¬PFoot q.P q.v k)->Calls Tryz.prog 60 #[(.pointer (some ⟨q.J,0,none⟩)),.slice ad 40 cap] V (AddTo q fl z p' u' nr' V)):
  Calls Tryz.prog 28 #[(.pointer (some ⟨q.S,0,none⟩)),.agg #[.int .i64 c.kind,.int .i64 c.day,.int .i64 c.tranche,.int .i64 c.amount,.int .i64 c.ref]] w (SvChg w q p' fl u' nr' (if z=0 then a.act c else a) z (if z=0 then a.dr c else 0) (if z=0 then a.dc c else 0)):=by
 have hcc:=λW=>Md c W;rw [hc] at hcc;have hup:=λW (hW:Keeps (λ_=>False) w W)=>jUp_any q.J q.P q.v p fl q.vl u W (h.keep0 hW).jrn (h.keep0 hW).pad;rw [if_neg (by simp [hd.1,hd.2])] at hup;have hfk:=λW (hW:Keeps (λ_=>False) w W)=>Rs q.B q.x a W (h.keep0 hW).acc hs;have hpk:=λW=>Nq c W;obtain⟨z1,hz1⟩:∃z,a.dz c=z:=⟨_,rfl⟩;obtain⟨z2,hz2⟩:∃z,a.dr c=z:=⟨_,rfl⟩;obtain⟨z3,hz3⟩:∃z,a.dc c=z:=⟨_,rfl⟩;rw [hz1] at hz;subst hz;rw [hz2,hz3];obtain⟨ki,da,tr,am,re⟩:=c;simp only [Cmd.nums] at hcc hadd hpk⊢;unfold Px at hpk;obtain⟨B,hB⟩:∃B,packN [ki,da,tr,am,re]=B:=⟨_,rfl⟩;have hBl:B.length=40:=by rw [<-hB];exact Fz _ _ _ _ _
 rw [hB] at hadd hpk;rw [hBl] at hpk;obtain⟨R,hR⟩:∃R,SvChg w q p' fl u' nr' (if z=0 then a.act ⟨ki,da,tr,am,re⟩ else a) z (if z=0 then z2 else 0) (if z=0 then z3 else 0)=R:=⟨_,rfl⟩;rw [hR];have hQ0:z=0->∀e w',SvChg w q p' fl u' nr' (a.act ⟨ki,da,tr,am,re⟩) 0 z2 z3 e w'->R e w':=λhz e w' h=>by rw [<-hR];subst hz;simp only [if_true];exact h
 have hQ1:¬z=0->∀e w',SvChg w q p' fl u' nr' a z 0 0 e w'->R e w':=λhz e w' h=>by rw [<-hR];simp only [if_neg hz];exact h
 clear hR;obtain⟨H,Hcc,Hup,Hd,Hfk,Hadd,Hpk,HB,HBl⟩:=hid9 h hcc hup hd hfk hadd hpk hB hBl;clear hBl hB hpk hadd hfk hd hup hcc h;obtain⟨HQ0,HQ1⟩:=hid2 hQ0 hQ1;clear hQ1 hQ0;go_enter Tryz.func28,Tryz.ntmps28;go_wp2_with fail;refine Ay 0 rfl ?_
 go_upto_region 5 with fail
 refine Qx λW0 hW0=> ?_;have hkx:Keeps (λ_=>False) w W0:=by rw [hW0];(repeat (first|exact Keeps.refl _ _|exact Keeps.alloc _ _|exact Keeps.drew _|exact Keeps.drewN _ _|refine Keeps.Am ?_|refine Keeps.Ak ?_|refine Keeps.Af ?_))
 have hC0:W0.heap[w.heap.size]?=some (.cells #[.int .i64 ki,.int .i64 da,.int .i64 tr,.int .i64 am,.int .i64 re] 23 (0,0)):=by rw [hW0];exact Ar (Ar (heap_alloc_new w _) _) _
 have hR0:W0.heap[w.heap.size+1]?=some (.cells #[.int .i64 0,.int .i64 0,.int .i64 0,.int .i64 0,.int .i64 0,.slice none 0 0,.int .i64 0,.int .i64 0,.slice none 0 0,.slice none 0 0,.int .i64 0,.int .i64 0,.int .i64 0,.int .i64 0,.int .i64 0,.slice none 0 0,.int .i64 0,.int .i64 0,.int .i64 0,.bool false] 62 (0,0)):=by rw [hW0];exact Ar (Av _ _ (by simp)) _
 have hT0:W0.heap[w.heap.size+1+1]?=some (.cells #[.int .i64 0,.int .i64 0,.int .i64 0,.int .i64 0,.int .i64 0,.slice none 0 0,.int .i64 0,.int .i64 0,.slice none 0 0,.slice none 0 0,.int .i64 0,.int .i64 0,.int .i64 0,.int .i64 0,.int .i64 0,.slice none 0 0,.int .i64 0,.int .i64 0,.int .i64 0,.bool false] 62 (0,0)):=by rw [hW0];exact sv_at3 _ _ _ _
 clear hW0;have c0:=Aa hC0 0;have c1:=Aa hC0 1;have c2:=Aa hC0 2;have c3:=Aa hC0 3;have c4:=Aa hC0 4;have cl:=lt_of_block hC0;obtain⟨Hkx,HC0,HR0,HT0⟩:=hid4 hkx hC0 hR0 hT0;clear hT0 hR0 hC0 hkx;go_wp2_with fail;refine(Hcc.out W0).mono ?_;rintro e w1 ⟨rfl,hk1⟩;have hkw1:=Hkx.out.nt hk1;have hC1:=Ad HC0.out hk1 (by simp);have hR1:=Ad HR0.out hk1 (by simp);have hT1:=Ad HT0.out hk1 (by simp);have s1:=Aa (H.out.keep0 hkw1).blk 1;have sl:=lt_of_block (H.out.keep0 hkw1).blk;clear c0 c1 c2 c3 c4 cl hk1;obtain⟨Hkw1,HR1,HC1,HT1⟩:=hid4 hkw1 hR1 hC1 hT1;clear hT1 hC1 hR1 hkw1;go_wp2_with fail;refine(Hup.out w1 Hkw1.out).mono ?_;rintro e w2 ⟨rfl,hk2⟩;have hkw2:=Hkw1.out.nt hk2;have hC2:=Ad HC1.out hk2 (by simp);have hR2:=Ad HR1.out hk2 (by simp);have hT2:=Ad HT1.out hk2 (by simp);clear s1 sl hk2;obtain⟨Hkw2,HR2,HC2,HT2⟩:=hid4 hkw2 hR2 hC2 hT2;clear hT2 hC2 hR2 hkw2;have hS2:=H.out.keep0 Hkw2.out;have s2:=Aa hS2.blk 2;have sl:=lt_of_block hS2.blk;have HS2:=Lib.hid hS2;clear hS2;go_wp2_with fail;refine(Hfk.out w2 Hkw2.out).mono ?_;rintro e w3 ⟨F,x',rfl,hA3,hk3,hf3,hr3⟩;have hkw3:=Hkw2.out.nt hk3;have hC3:=Ad HC2.out hk3 (by simp);have hR3:=Ad HR2.out hk3 (by simp);have hT3:=Ad HT2.out hk3 (by simp);have c0:=Aa hC3 0;have c1:=Aa hC3 1;have c2:=Aa hC3 2;have c3:=Aa hC3 3;have c4:=Aa hC3 4;have cl:=lt_of_block hC3;have hdo:=accDo_chB F x' a ⟨ki,da,tr,am,re⟩ w3 hA3 hs hc;rw [hz1,hz2,hz3] at hdo;have hf3':∀b,AcF F x' b->w.heap.size<=b:=λb hb=>Nat.le_trans Hkw2.out.size (hf3 b hb);have hr3':∀b,x'.rd b->q.x.rd b\/w.heap.size<=b:=λb hb=>(hr3 b hb).imp id λe=>Nat.le_trans Hkw2.out.size e;have hbox:∀i,(i=w.heap.size+1\/i=w.heap.size+1+1\/i=w.heap.size)->¬AcF F x' i:=λi hi e=>by have:=hf3 i e;have:=lt_of_block HT2.out;omega
 clear s2 sl hk3 hf3 hr3;obtain⟨Hkw3,HC3,HR3,HT3,Hdo,Hf3',Hr3',HA3,Hbox⟩:=hid9 hkw3 hC3 hR3 hT3 hdo hf3' hr3' hA3 hbox;clear hbox hA3 hr3' hf3' hdo hT3 hR3 hC3 hkw3;go_wp2_with fail;refine Hdo.out.mono ?_;rintro e w4 ⟨rfl,x4,hA4,hk4,hf4,hr4⟩;have hk4n:Keeps (λi=>w.heap.size<=i) w3 w4:=hk4.mono λi _ e=>Hf3'.out i e;have hkw4:Keeps (λ_=>False) w w4:=Hkw3.out.trans (hk4n.mono λi _ e=> .inr e);have hC4:=Ad HC3.out hk4 (Hbox.out _ j6);have hR4:=Ad HR3.out hk4 (Hbox.out _ j6);have hT4:=Ad HT3.out hk4 (Hbox.out _ j6);have hf4':∀b,AcF F x4 b->w.heap.size<=b:=λb hb=>(hf4 b hb).elim (Hf3'.out b) λe=>Nat.le_trans Hkw3.out.size e;have hr4':∀b,x4.rd b->q.x.rd b\/w.heap.size<=b:=λb hb=>(hr4 b hb).elim (Hr3'.out b) λe=> .inr (Nat.le_trans Hkw3.out.size e);have hput4:=setRow_heap w4 (w.heap.size+1+1) _ #[.int .i64 0,.int .i64 z2,.int .i64 z3,.int .i64 0,.int .i64 0,.slice none 0 0,.int .i64 0,.int .i64 0,.slice none 0 0,.slice none 0 0,.int .i64 0,.int .i64 0,.int .i64 0,.int .i64 0,.int .i64 0,.slice none 0 0,.int .i64 0,.int .i64 0,.int .i64 0,.bool false] _ _ hT4;clear c0 c1 c2 c3 c4 cl hk4 hk4n hf4 hr4;obtain⟨HA4,Hkw4,HC4,HR4,HT4,Hf4',Hr4',Hput4⟩:=hid8 hA4 hkw4 hC4 hR4 hT4 hf4' hr4' hput4;clear hput4 hr4' hf4' hT4 hR4 hC4 hkw4 hA4
 go_upto_region 11 with(refine wpList_store_row rfl 62 (.tmp 6) (.tmp 33) rfl (w.heap.size+1+1) #[.int .i64 0,.int .i64 z2,.int .i64 z3,.int .i64 0,.int .i64 0,.slice none 0 0,.int .i64 0,.int .i64 0,.slice none 0 0,.slice none 0 0,.int .i64 0,.int .i64 0,.int .i64 0,.int .i64 0,.int .i64 0,.slice none 0 0,.int .i64 0,.int .i64 0,.int .i64 0,.bool false] rfl rfl 62 _ HT4.out Aw rfl (Dr _ _ _) ?_)
 refine Qx λw5 hw5=> ?_;rw [<-hw5] at Hput4;have hput5:=Hput4.out;have hk5:Keeps (λi=>i=w.heap.size+1+1) w4 w5:=by rw [hw5];exact Co _ _ _
 have hkw5:Keeps (λ_=>False) w w5:=Hkw4.out.trans (hk5.mono λi _ e=> .inr j0n);have hC5:=Ad HC4.out hk5 (by show¬w.heap.size=w.heap.size+1+1;omega);have hR5:=Ad HR4.out hk5 (by show¬w.heap.size+1=w.heap.size+1+1;omega);have hA5:=HA4.out.keeps hk5 λb hb e=>by have e':b=w.heap.size+1+1:=e;exact HA4.out.other HT4.out b hb e'
 have t0:=Aa hput5 0;have tl:=lt_of_block hput5;clear hw5 Hput4;obtain⟨Hput5,Hk5,Hkw5,HC5,HR5,HA5⟩:=hid6 hput5 hk5 hkw5 hC5 hR5 hA5;clear hA5 hR5 hC5 hkw5 hk5 hput5;have hAt5:=H.out.keep0 Hkw5.out;have hS5:sv13 q.S q.J w.heap.size ki da tr am re w5:=⟨⟨Aa hAt5.blk 1,lt_of_block hAt5.blk⟩,HC5.out⟩;obtain⟨HAt5,HS5⟩:=hid2 hAt5 hS5;clear hS5 hAt5
 go_upto_region 13 with fail
 clear t0 tl;refine Al (sv13 q.S q.J w.heap.size ki da tr am re) (.take 0 (.take 1 (.take 2 (.take 3 (.take 4 (.move 5 (.move 6 (.take 7 .done)))))))) j9 j9 ?_ ?_
 ·exact HS5.out.keep (Keeps.drew (S:=λ_=>False) _) (by simp) (by simp)
 intro w6 hs6 hk6;have Hs6:=Lib.hid hs6;clear hs6;refine jR ?_;refine Bz rfl (by rfl) w.heap.size rfl 23 #[.int .i64 ki,.int .i64 da,.int .i64 tr,.int .i64 am,.int .i64 re] _ _ (λw h=>h.2) Tryz.underlying23 rfl Ce ?_;refine je ?_;intro K hK
 go_at_call 14
 ((with_reducible refine(Hpk.out w6).mono ?_);rintro e w7 ⟨vb,rfl,hrow7,hk7,hn7⟩)
 obtain⟨ab,cb,rfl,_,_⟩:=Ae hrow7;dsimp only;have hs7:=Hs6.out.keep hk7 (by simp) (by simp);refine hK.out _ _ (by exact hs7) ?_;clear hK K;refine jh ?_;have hk57:=hk6.nt hk7;have hAt7:=HAt5.out.keep0 hk57;have hkw7:=Hkw5.out.nt hk57
 have hsep7:∀k,(Value.slice ab 40 cb).ownBlock=some k->¬PFoot q.P q.v k:=by
  rintro k hk (rfl|e)
  ·exact Ai hrow7 hAt7.pad.blk j7 hk
  ·exact Eu hrow7 hAt7.pad.row j7 hk e
 refine jc ?_;intro K hK
 go_at_call 60
 ((with_reducible refine((Hadd.out w7 ab cb hAt7.jrn hAt7.row hAt7.pad (Reads.Az hrow7) hsep7)).mono ?_);rintro e w8 ⟨rfl,vl',R',hj8,hr8,hp8,hk8,hv8⟩)
 dsimp only;have hs8:=hs7.keep hk8 hAt7.jS (λe=>by have:=H.out.lt (.inl (.inr (.inl e)));omega);refine hK.out _ _ (by exact hs8) ?_;clear hK K;refine jj ?_;have hR8:=Ad (Ad HR5.out hk57 (by simp)) hk8 (λe=>by have:=H.out.lt (.inl (.inr (.inl e)));omega);have hT8:=Ad (Ad Hput5.out hk57 (by simp)) hk8 (λe=>by have:=H.out.lt (.inl (.inr (.inl e)));omega);have hAt8:=hAt7.add (_z:=z) hj8 hr8 hp8 hk8;have hA8:=AcAt.addK hAt7 (HA5.out.keep0 hk57) hk8;have hkw8:Keeps (SvF q) w w8:=(hkw7.mono (by simp)).trans (hk8.mono λi _ e=> .inl (.inr (.inl e)));have hv8':∀g,vl'.ownBlock=some g->q.vl.ownBlock=some g\/w.heap.size<=g:=λg hg=>(hv8 g hg).imp id λe=>Nat.le_trans hkw7.size e
 have hjf:∀b,JF { q with vl:=vl' } b->JF q b\/w.heap.size<=b:=by
  rintro b (e|e|e)
  ·exact .inl (.inl e)
  ·exact .inl (.inr (.inl e))
  ·exact(hv8' b e).imp (λe=> .inr (.inr e)) id
 clear hs7 hs8 hk6 hk7 hk57 hn7 hrow7 hAt7 hkw7 hj8 hr8 hp8 hk8 hv8 Hs6;by_cases hz0:z=0
 ·subst hz0;have HQ0x:=Lib.hid (HQ0.out rfl);have hblk8:=hAt8.blk;have s2:=Aa hblk8 2;have f2:=Ab hblk8 2;have sl:=lt_of_block hblk8;have hAt9:=hAt8.swap hA8;have hk9:Keeps (λi=>i=q.S) w8 (w8.setCell ⟨q.S,2,none⟩ (.pointer (some ⟨F,0,none⟩))):=Keeps.setCell _ _ _ rfl;have hsS:q.S<w.heap.size:=lt_of_block H.out.blk;have hR9:=Ad hR8 hk9 (λe=>by have e':w.heap.size+1=q.S:=e;omega);have hT9:=Ad hT8 hk9 (λe=>by have e':w.heap.size+1+1=q.S:=e;omega);obtain⟨w9,hw9⟩:∃x,x=w8.setCell ⟨q.S,2,none⟩ (.pointer (some ⟨F,0,none⟩)):=⟨_,rfl⟩;rw [<-hw9] at hAt9 hk9 hR9 hT9;have hAt10:=hAt9.setAns (C':= #[.int .i64 0,.int .i64 z2,.int .i64 z3,.int .i64 0,.int .i64 0,.slice none 0 0,.int .i64 0,.int .i64 0,.slice none 0 0,.slice none 0 0,.int .i64 0,.int .i64 0,.int .i64 0,.int .i64 0,.int .i64 0,.slice none 0 0,.int .i64 0,.int .i64 0,.int .i64 0,.bool false]) hR9;have hput:=setRow_heap w9 (w.heap.size+1) _ #[.int .i64 0,.int .i64 z2,.int .i64 z3,.int .i64 0,.int .i64 0,.slice none 0 0,.int .i64 0,.int .i64 0,.slice none 0 0,.slice none 0 0,.int .i64 0,.int .i64 0,.int .i64 0,.int .i64 0,.int .i64 0,.slice none 0 0,.int .i64 0,.int .i64 0,.int .i64 0,.bool false] _ _ hR9;have hkf:Keeps (SvF q) w (w9.setRow (w.heap.size+1) #[.int .i64 0,.int .i64 z2,.int .i64 z3,.int .i64 0,.int .i64 0,.slice none 0 0,.int .i64 0,.int .i64 0,.slice none 0 0,.slice none 0 0,.int .i64 0,.int .i64 0,.int .i64 0,.int .i64 0,.int .i64 0,.slice none 0 0,.int .i64 0,.int .i64 0,.int .i64 0,.bool false]):=hkw8.trans ((hk9.mono λi _ e=> .inl (.inl e)).trans ((Co _ _ _).mono λi _ e=> .inl (.inr jo)))
  have hnew:Newer w q { q with vl:=vl',B:=F,x:=x4 }:=⟨rfl,rfl,rfl,λb hb=>by
   rcases hb with hb|hb|hb
   ·exact .inl (.inl hb)
   ·exact(hjf b hb).imp (λe=> .inr (.inl e)) id
   ·exact .inr (Hf4'.out b hb),Hr4'.out⟩
  clear hblk8 hjf hv8' hkw8 hA8 hAt8 hR8 hT8;obtain⟨HAt9,Hk9,HR9,HT9,HAt10,Hput,Hkf,Hnew⟩:=hid8 hAt9 hk9 hR9 hT9 hAt10 hput hkf hnew;clear hnew hkf hput hAt10 hT9 hR9 hk9 hAt9
  go_upto_region 16 with fail
  rw [<-hw9];clear hw9 s2 f2 sl
  go_wp2_with (first|(refine wpList_load_row rfl 62 (.tmp 6) rfl (w.heap.size+1+1) rfl 62 #[.int .i64 0,.int .i64 z2,.int .i64 z3,.int .i64 0,.int .i64 0,.slice none 0 0,.int .i64 0,.int .i64 0,.slice none 0 0,.slice none 0 0,.int .i64 0,.int .i64 0,.int .i64 0,.int .i64 0,.int .i64 0,.slice none 0 0,.int .i64 0,.int .i64 0,.int .i64 0,.bool false] _ _ HT9.out Tryz.underlying62 rfl Aw ?_)|(refine wpList_store_row rfl 62 (.tmp 4) (.tmp 51) rfl (w.heap.size+1) #[.int .i64 0,.int .i64 z2,.int .i64 z3,.int .i64 0,.int .i64 0,.slice none 0 0,.int .i64 0,.int .i64 0,.slice none 0 0,.slice none 0 0,.int .i64 0,.int .i64 0,.int .i64 0,.int .i64 0,.int .i64 0,.slice none 0 0,.int .i64 0,.int .i64 0,.int .i64 0,.bool false] rfl rfl 62 _ HR9.out Aw rfl (Dr _ _ _) ?_))
  refine Bq ?_;exact bodyPost_ret (results_cell_row rfl _ _ (w.heap.size+1) 62 #[.int .i64 0,.int .i64 z2,.int .i64 z3,.int .i64 0,.int .i64 0,.slice none 0 0,.int .i64 0,.int .i64 0,.slice none 0 0,.slice none 0 0,.int .i64 0,.int .i64 0,.int .i64 0,.int .i64 0,.int .i64 0,.slice none 0 0,.int .i64 0,.int .i64 0,.int .i64 0,.bool false] _ _ rfl Hput.out Tryz.underlying62 rfl Aw) rfl (HQ0x.out _ _ ⟨rfl,_,_,HAt10.out,Hnew.out,Hkf.out⟩)
 ·skip
  have hz0b:(z !=0)=true:=by simp [hz0]
  have hAt10:=hAt8.setAns (C':= #[.int .i64 z,.int .i64 0,.int .i64 0,.int .i64 0,.int .i64 0,.slice none 0 0,.int .i64 0,.int .i64 0,.slice none 0 0,.slice none 0 0,.int .i64 0,.int .i64 0,.int .i64 0,.int .i64 0,.int .i64 0,.slice none 0 0,.int .i64 0,.int .i64 0,.int .i64 0,.bool false]) hR8;have hkf0:Keeps (SvF q) w (w8.setRow (w.heap.size+1) #[.int .i64 z,.int .i64 0,.int .i64 0,.int .i64 0,.int .i64 0,.slice none 0 0,.int .i64 0,.int .i64 0,.slice none 0 0,.slice none 0 0,.int .i64 0,.int .i64 0,.int .i64 0,.int .i64 0,.int .i64 0,.slice none 0 0,.int .i64 0,.int .i64 0,.int .i64 0,.bool false]):=hkw8.trans ((Co _ _ _).mono λi _ e=> .inr jo)
  have hnew:Newer w q { q with vl:=vl' }:=⟨rfl,rfl,rfl,λb hb=>by
   rcases hb with hb|hb|hb
   ·exact .inl (.inl hb)
   ·exact(hjf b hb).imp (λe=> .inr (.inl e)) id
   ·exact .inl (.inr (.inr hb)),λb hb=> .inl hb⟩
  clear hjf hv8' hkw8 hA8 hAt8 hT8;obtain⟨HAt10,Hkf0,Hnew,HR8,Hz0⟩:=hid5 hAt10 hkf0 hnew hR8 hz0;clear hz0 hR8 hnew hkf0 hAt10;have hput:=setRow_heap w8 (w.heap.size+1) _ #[.int .i64 z,.int .i64 0,.int .i64 0,.int .i64 0,.int .i64 0,.slice none 0 0,.int .i64 0,.int .i64 0,.slice none 0 0,.slice none 0 0,.int .i64 0,.int .i64 0,.int .i64 0,.int .i64 0,.int .i64 0,.slice none 0 0,.int .i64 0,.int .i64 0,.int .i64 0,.bool false] _ _ HR8.out;have hkf:Keeps (λi=>i=w.heap.size+1) w8 (w8.setRow (w.heap.size+1) #[.int .i64 z,.int .i64 0,.int .i64 0,.int .i64 0,.int .i64 0,.slice none 0 0,.int .i64 0,.int .i64 0,.slice none 0 0,.slice none 0 0,.int .i64 0,.int .i64 0,.int .i64 0,.int .i64 0,.int .i64 0,.slice none 0 0,.int .i64 0,.int .i64 0,.int .i64 0,.bool false]):=Co _ _ _;obtain⟨Hput,Hkf⟩:=hid2 hput hkf;clear hkf hput;go_wp2_with fail;go_step3;go_wp2;refine Au ?_
  go_wp2_with (refine wpList_store_row rfl 62 (.tmp 4) (.tmp 53) rfl (w.heap.size+1) #[.int .i64 z,.int .i64 0,.int .i64 0,.int .i64 0,.int .i64 0,.slice none 0 0,.int .i64 0,.int .i64 0,.slice none 0 0,.slice none 0 0,.int .i64 0,.int .i64 0,.int .i64 0,.int .i64 0,.int .i64 0,.slice none 0 0,.int .i64 0,.int .i64 0,.int .i64 0,.bool false] rfl rfl 62 _ HR8.out Aw rfl (Dr _ _ _) ?_)
  rw [Exit.noGoto_ret];exact bodyPost_ret (results_cell_row rfl _ _ (w.heap.size+1) 62 #[.int .i64 z,.int .i64 0,.int .i64 0,.int .i64 0,.int .i64 0,.slice none 0 0,.int .i64 0,.int .i64 0,.slice none 0 0,.slice none 0 0,.int .i64 0,.int .i64 0,.int .i64 0,.int .i64 0,.int .i64 0,.slice none 0 0,.int .i64 0,.int .i64 0,.int .i64 0,.bool false] _ _ rfl Hput.out Tryz.underlying62 rfl Aw) rfl (HQ1.out Hz0.out _ _ ⟨rfl,_,_,HAt10.out,Hnew.out,Hkf0.out⟩)
def Tm.nums(t:Tm):List Int:= [t.limit,t.cyc,t.due,t.minFixed,t.minPart,t.start,t.trs.length]
def tnB(x:Tn):List Int:=eight x.rate++ [if x.grace then 1 else 0]
def Ee(t:Tm):List Int:=packN t.nums++t.trs.flatMap tnB
theorem tnB_len(L:List Tn):(L.flatMap tnB).length=9*L.length:=by
 induction L with
 |nil=>rfl
 |cons a l ih=>rw [List.flatMap_cons,List.length_append,ih];simp [tnB,Bu];omega
structure NB(w W:World)(v:Value)(B:List Int):Prop where
 row:W.ownsRow 0 5 1 v B.length (B.flatMap u8c)
 kp:Keeps (λ_=>False) w W
 nw:∀g,v.ownBlock=some g->w.heap.size<=g
theorem NB.put{w W W':World}{v v':Value}{B C:List Int}(h:NB w W v B)(hg:Grown W W' v v' C):NB w W' v' C:=
 ⟨hg.row,h.kp.trans (hg.kp.mono λk _ e=> .inr (h.nw k e)),λg e=>by
  rcases hg.nw with e'|⟨g',e',hh⟩
  ·exact h.nw g (by rw [<-e'];exact e)
  ·rw [e] at e';have:=Option.some.inj e';have:=h.kp.size;omega⟩
theorem NB.keep{w W W':World}{v:Value}{B:List Int}(h:NB w W v B)(hk:Keeps (λ_=>False) W W'):NB w W' v B:=⟨hk.row h.row (λ_ _ h=>h),Keeps.nt h.kp hk,h.nw⟩
theorem Zo{t:Tm}(h:t.err=0):1<=t.trs.length/\t.trs.length<=8:=by
 unfold Tm.err at h;by_cases hk:t.okB=true
 ·simp only [Tm.okB,Bool.and_eq_true,inB,decide_eq_true_eq] at hk;omega
 ·rw [if_neg hk] at h;exact absurd h j7
theorem NB.row'{w W:World}{v:Value}{B:List Int}(h:NB w W v B){n:Nat}(hn:B.length=n):W.ownsRow 0 5 1 v n (B.flatMap u8c):=by rw [<-hn];exact h.row
end Go.Proofs.YtgbgmadkmabeeaaGreat
