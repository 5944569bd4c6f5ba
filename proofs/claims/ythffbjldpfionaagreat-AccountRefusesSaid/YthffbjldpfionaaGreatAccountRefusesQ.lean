/-
  AccountRefuses: for every input the law returns true, and each argument reads behind the call as it read before. No condition.
-/
import Derived.Test.YthffbjldpfionaaGreatAccountRefusesQ1
namespace Go.Proofs.YthffbjldpfionaaGreat
open Go.RowKit
theorem jY12{P:Prop}(h:P:=by
 exact⟨v,he,ha,(h.post hx hp).1,(h.post hx hp).2⟩):P:=h
theorem jY9{P:Prop}(h:P:=by
 obtain⟨Hat,Hk,Ho,Hrow⟩:=hid4 hat hk ho hrow;clear hrow ho hk hat
 go_wp2
 go_ret;exact⟨_,_,rfl,Hat.out,by rw [Ho.out];exact hom⟩):P:=h
theorem jY7{P:Prop}(h:P:=by
 obtain⟨B1,Hok0⟩:=hid2 b1 hok0;clear hok0 b1
 go_wp2_with (go_at_call 73;((with_reducible refine(rtmWithin_at B1.out _).mono ?_);rintro e w1 ⟨rfl,rfl⟩))
 go_meet
 exact⟨rfl,rfl⟩):P:=h
theorem jY21{P:Prop}(h:P:=by
 have:ok0=false:=by rw [←hok0,b1];rfl
 subst this;exact jY7):P:=h
theorem jY18{P:Prop}(h:P:=by
 go_ret;exact⟨by rw [Hf.out];rfl,Hk.out⟩):P:=h
theorem jY3{P:Prop}(h:P:=by
 obtain⟨Hat,Hkq,Hmap,Hlen,Hpl,Hrow,Hlt,HZ4,Hrd4⟩:=hid9 hat hkq hmap hlen hpl hrow hlt hZ4 hrd4;clear hrd4 hZ4 hlt hrow hpl hlen hmap hkq hat;have Hnb:=Lib.hid hnb;clear hnb;have t0:=Aa (Hat.out.h3) 0;have t1:=Aa (Hat.out.h3) 1;have t2:=Aa (Hat.out.h3) 2;have t3:=Aa (Hat.out.h3) 3;have t4:=Aa (Hat.out.h3) 4;have t5:=Aa (Hat.out.h3) 5;have t6:=Aa (Hat.out.h3) 6;have tl:=lt_of_block (Hat.out.h3);have s0:=Aa (Hat.out.h2) 0;have s1:=Aa (Hat.out.h2) 1;have s2:=Aa (Hat.out.h2) 2;have s3:=Aa (Hat.out.h2) 3;have s4:=Aa (Hat.out.h2) 4;have s5:=Aa (Hat.out.h2) 5;have s6:=Aa (Hat.out.h2) 6;have sl:=lt_of_block (Hat.out.h2);have f0:=Ab (Hat.out.h2) 0;have f1:=Ab (Hat.out.h2) 1;have f2:=Ab (Hat.out.h2) 2;have f3:=Ab (Hat.out.h2) 3;have f4:=Ab (Hat.out.h2) 4;have f5:=Ab (Hat.out.h2) 5;have f6:=Ab (Hat.out.h2) 6;obtain⟨hb5,hk5⟩:=store7 (Hat.out.h2) (.int .i64 ul) (.slice av i cv) (.int .i64 (1+uc)) (.int .i64 (1+ud)) (.int .i64 uf) (.int .i64 up) (.int .i64 (10957+q));have hkz:=(Hkq.out).trans (hk5.mono fun i _ e=> .inr (by have e':i=B+1:=e;have:=HBe.out;omega));have hrz:Reads _ 2 (.slice av i cv) Z.trs.length (Z.trs.flatMap Tn.cells):=(by rw [←HZ4.out];exact Hrd4.out.keeps hk5 (fun g hg e=>by have e':g=B+1:=e;subst e';exact Hnb.out hg));obtain⟨Hb5,Hk5,Hkz,Hrz⟩:=hid4 hb5 hk5 hkz hrz;clear hrz hkz hk5 hb5
 go_wp2
 clear s0 s1 s2 s3 s4 s5 s6;have r0:=Aa (Hb5.out) 0;have r1:=Aa (Hb5.out) 1;have r2:=Aa (Hb5.out) 2;have r3:=Aa (Hb5.out) 3;have r4:=Aa (Hb5.out) 4;have r5:=Aa (Hb5.out) 5;have r6:=Aa (Hb5.out) 6;exact bodyPost_ret (v:= .agg #[.int .i64 ul,.slice av i cv,.int .i64 (1+uc),.int .i64 (1+ud),.int .i64 uf,.int .i64 up,.int .i64 (10957+q)]) (by simp [results,Tryz.results24,go_sem,r0,r1,r2,r3,r4,r5,r6]) rfl ⟨.slice av i cv,by rw [←HZ4.out],Hrz.out,Hkz.out,.inr (fun g hg=>Nat.le_trans Hk2.out.size (Hat.out.nw g hg))⟩):P:=h
theorem jY16{P:Prop}(h:P:=by
 unfold lastE;rw [if_neg (by omega),if_neg (by omega),if_neg (by omega)]):P:=h
theorem jY13{P:Prop}(h:P:=by
 unfold tellE at h;unfold tellP
 split at h
 ·rename_i hh;rw [if_pos hh]
 ·exact absurd rfl h):P:=h
set_option maxRecDepth 100000
set_option maxHeartbeats 1600000
theorem accDo_tick(B:Nat)(x:AcV)(a:Ac)(c:Cmd)(w:World)(h:AcAt w B x a)(hs:a.seq≤100000)(hk:c.kind=8):
  Calls Tryz.prog 15 #[(.pointer (some ⟨B,0,none⟩)),.agg #[.int .i64 c.kind,.int .i64 c.day,.int .i64 c.tranche,.int .i64 c.amount,.int .i64 c.ref]] w fun e w'=>e= .returned (.agg #[.int .i64 (a.te c.day),.int .i64 0,.int .i64 (a.tc c.day),.int .i64 0,.int .i64 0,.slice none 0 0,.int .i64 0,.int .i64 0,.slice none 0 0,.slice none 0 0,.int .i64 0,.int .i64 0,.int .i64 0,.int .i64 0,.int .i64 0,.slice none 0 0,.int .i64 0,.int .i64 0,.int .i64 0,.bool false])∧AcPost w B x (a.tick c.day) w':=by
 obtain⟨ki,da,tr,am,re⟩:=c;simp only at hk⊢;subst hk;have hti:=fun(W:World) (hW:Keeps (fun _=>False) w W)=>accTick_any B x a da W (h.keep0 hW) hs (fun ht=>Ac.mono h.ok ht);unfold TickPost at hti;obtain⟨te,hte⟩:∃z,a.te da=z:=⟨_,rfl⟩;obtain⟨tc,htc⟩:∃z,a.tc da=z:=⟨_,rfl⟩;rw [hte,htc] at hti⊢;obtain⟨W0,hW0⟩:∃x,x=(w.alloc (.cells #[.int .i64 8,.int .i64 da,.int .i64 tr,.int .i64 am,.int .i64 re] 47)).alloc (.cells #[.int .i64 0,.int .i64 0,.int .i64 0,.int .i64 0,.int .i64 0,.slice none 0 0,.int .i64 0,.int .i64 0,.slice none 0 0,.slice none 0 0,.int .i64 0,.int .i64 0,.int .i64 0,.int .i64 0,.int .i64 0,.slice none 0 0,.int .i64 0,.int .i64 0,.int .i64 0,.bool false] 44):=⟨_,rfl⟩;have hc0:W0.heap[w.heap.size]?=some (.cells #[.int .i64 8,.int .i64 da,.int .i64 tr,.int .i64 am,.int .i64 re] 47 (0,0)):=by rw [hW0];exact Au (heap_alloc_new w _) _
 have hr0:W0.heap[w.heap.size+1]?=some (.cells #[.int .i64 0,.int .i64 0,.int .i64 0,.int .i64 0,.int .i64 0,.slice none 0 0,.int .i64 0,.int .i64 0,.slice none 0 0,.slice none 0 0,.int .i64 0,.int .i64 0,.int .i64 0,.int .i64 0,.int .i64 0,.slice none 0 0,.int .i64 0,.int .i64 0,.int .i64 0,.bool false] 44 (0,0)):=by rw [hW0];exact Ay _ _ (by simp)
 have hk0:Keeps (fun _=>False) w W0:=by rw [hW0];(repeat (first|exact Keeps.refl _ _|exact Keeps.alloc _ _|exact Keeps.drew _|exact Keeps.drewN _ _|refine Keeps.Ap ?_|refine Keeps.Al ?_|refine Keeps.Ae ?_))
 obtain⟨H,Hti,Hte,Htc,Hc0,Hr0,Hk0⟩:=hid7 h hti hte htc hc0 hr0 hk0;clear hk0 hr0 hc0 htc hte hti h
 go_enter Tryz.func15,Tryz.ntmps15
 go_wp2_with fail
 rw [←hW0];clear hW0;refine(Hti.out W0 Hk0.out).mono ?_;rintro e w2 ⟨rfl,hp⟩;obtain⟨hR,hq⟩:=AcPost.ret (V:= #[.int .i64 te,.int .i64 0,.int .i64 tc,.int .i64 0,.int .i64 0,.slice none 0 0,.int .i64 0,.int .i64 0,.slice none 0 0,.slice none 0 0,.int .i64 0,.int .i64 0,.int .i64 0,.int .i64 0,.int .i64 0,.slice none 0 0,.int .i64 0,.int .i64 0,.int .i64 0,.bool false]) H.out Hk0.out hp Hr0.out (Nat.le_succ _);have hput:=setRow_heap w2 (w.heap.size+1) #[.int .i64 0,.int .i64 0,.int .i64 0,.int .i64 0,.int .i64 0,.slice none 0 0,.int .i64 0,.int .i64 0,.slice none 0 0,.slice none 0 0,.int .i64 0,.int .i64 0,.int .i64 0,.int .i64 0,.int .i64 0,.slice none 0 0,.int .i64 0,.int .i64 0,.int .i64 0,.bool false] #[.int .i64 te,.int .i64 0,.int .i64 tc,.int .i64 0,.int .i64 0,.slice none 0 0,.int .i64 0,.int .i64 0,.slice none 0 0,.slice none 0 0,.int .i64 0,.int .i64 0,.int .i64 0,.int .i64 0,.int .i64 0,.slice none 0 0,.int .i64 0,.int .i64 0,.int .i64 0,.bool false] 44 _ hR;clear hp;obtain⟨HR,Hq,Hput⟩:=hid3 hR hq hput;clear hput hq hR
 go_wp2_with (refine wpList_store_row rfl 44 (.tmp 4) (.tmp 15) rfl (w.heap.size+1) #[.int .i64 te,.int .i64 0,.int .i64 tc,.int .i64 0,.int .i64 0,.slice none 0 0,.int .i64 0,.int .i64 0,.slice none 0 0,.slice none 0 0,.int .i64 0,.int .i64 0,.int .i64 0,.int .i64 0,.int .i64 0,.slice none 0 0,.int .i64 0,.int .i64 0,.int .i64 0,.bool false] rfl rfl 44 #[.int .i64 0,.int .i64 0,.int .i64 0,.int .i64 0,.int .i64 0,.slice none 0 0,.int .i64 0,.int .i64 0,.slice none 0 0,.slice none 0 0,.int .i64 0,.int .i64 0,.int .i64 0,.int .i64 0,.int .i64 0,.slice none 0 0,.int .i64 0,.int .i64 0,.int .i64 0,.bool false] HR.out Ar rfl (Br _ _ _) ?_)
 exact bodyPost_ret (results_cell_row rfl _ _ (w.heap.size+1) 44 #[.int .i64 te,.int .i64 0,.int .i64 tc,.int .i64 0,.int .i64 0,.slice none 0 0,.int .i64 0,.int .i64 0,.slice none 0 0,.slice none 0 0,.int .i64 0,.int .i64 0,.int .i64 0,.int .i64 0,.int .i64 0,.slice none 0 0,.int .i64 0,.int .i64 0,.int .i64 0,.bool false] _ _ rfl Hput.out Tryz.underlying44 rfl Ar) rfl ⟨rfl,Hq.out⟩
def DoLive(w0:World)(O:Nat→Prop)(W:World)(B:Nat)(a:Ac)(c:Cmd)(e:Ending)(W':World):Prop:=∃v,e= .returned v∧AnsIs W W' (a.dz c) (a.dr c) (a.dc c) (a.ds c) (a.dp c) v∧Live w0 O W' B (a.act c)∧Keeps (fun i=>w0.heap.size≤i∧¬O i) W W'
theorem live_do{w0 W:World}{O:Nat→Prop}{B:Nat}{a:Ac}(h:Live w0 O W B a)(c:Cmd)(hs:a.seq≤100000):
  Calls Tryz.prog 15 #[(.pointer (some ⟨B,0,none⟩)),.agg #[.int .i64 c.kind,.int .i64 c.day,.int .i64 c.tranche,.int .i64 c.amount,.int .i64 c.ref]] W (DoLive w0 O W B a c):=by
 obtain⟨x,hx⟩:=h.is;by_cases h8:c.kind=8
 ·refine(accDo_tick B x a c W hx.1 hs h8).mono ?_;rintro e w' ⟨he,hp⟩;refine⟨_,he, ?_,by unfold Ac.act;rw [if_pos h8];exact(h.post hx hp).1,(h.post hx hp).2⟩;have:=AnsIs.mk0 W w' (a.te c.day) 0 (a.tc c.day);unfold Ac.dz Ac.dr Ac.dc Ac.ds Ac.dp;rw [if_pos h8,if_neg (by omega),if_pos h8,if_neg (by omega),if_neg (by omega),if_neg (by omega)];exact this
 by_cases h17:1≤c.kind∧c.kind≤7
 ·refine(accDo_chg B x a c W hx.1 hs h17).mono ?_;rintro e w' ⟨he,hp⟩;refine⟨_,he, ?_,by unfold Ac.act;rw [if_neg h8,if_pos h17];exact(h.post hx hp).1,(h.post hx hp).2⟩;have:=AnsIs.mk0 W w' (a.xe c) (a.xr c) 0;unfold Ac.dz Ac.dr Ac.dc Ac.ds Ac.dp;rw [if_neg h8,if_neg (by omega),if_neg (by omega),if_neg (by omega),if_pos h17,if_pos h17,if_neg h8,if_neg (by omega),if_neg (by omega),if_neg (by omega)];exact this
 have hact:a.act c=a:=by unfold Ac.act;rw [if_neg h8,if_neg h17]
 have hdr:a.dr c=0:=by unfold Ac.dr;rw [if_neg h17]
 have hdc:a.dc c=0:=by unfold Ac.dc;rw [if_neg h8]
 unfold DoLive;rw [hact,hdr,hdc];unfold Ac.dz Ac.ds Ac.dp;rw [if_neg h8];by_cases h9:c.kind=9
 ·refine(accDo_tell B x a c W hx.1 h9).mono ?_;rintro e w' ⟨v,he,ha,hp⟩;rw [if_pos h9,if_pos h9,if_neg (by omega),if_neg (by omega)];exact jY12
 rw [if_neg h9,if_neg h9];by_cases h10:c.kind=10
 ·refine(accDo_page B x a c W hx.1 h10).mono ?_;rintro e w' ⟨v,he,ha,hp⟩;rw [if_pos h10,if_pos h10];exact jY12
 rw [if_neg h10,if_neg h10];by_cases h11:c.kind=11
 ·refine(accDo_restate B x a c W hx.1 h11).mono ?_;rintro e w' ⟨v,he,ha,hp⟩;rw [if_pos h11,if_pos h11];exact jY12
 rw [if_neg h11,if_neg h11,if_neg h17];refine(accDo_none B x a c W hx.1 (by omega)).mono ?_;rintro e w' ⟨he,hp⟩;exact⟨_,he,AnsIs.mk0 _ _ _ _ _,(h.post hx hp).1,(h.post hx hp).2⟩
def AnsL(z r y:Int)(v:Value):Prop:=∃s0 s1 s3 s4 s7 p0 p1 p2 p3 p5 p6 p7 q1 n1 c1 q2 n2 c2 q3 n3 c3 q4 n4 c4 gr,v= .agg #[.int .i64 z,.int .i64 r,.int .i64 y,.int .i64 s0,.int .i64 s1,.slice q1 n1 c1,.int .i64 s3,.int .i64 s4,.slice q2 n2 c2,.slice q3 n3 c3,.int .i64 s7,.int .i64 p0,.int .i64 p1,.int .i64 p2,.int .i64 p3,.slice q4 n4 c4,.int .i64 p5,.int .i64 p6,.int .i64 p7,.bool gr]
theorem AnsIs.letters{w W:World}{z r cy:Int}{s:PSt}{p:Stm}{v:Value}(h:AnsIs w W z r cy s p v):AnsL z r cy v:=by
 obtain⟨a1,c1,a2,c2,a3,c3,a4,c4,h,_⟩:=h;exact⟨_,_,_,_,_,_,_,_,_,_,_,_,_,_,_,_,_,_,_,_,_,_,_,_,_,h⟩
theorem one_ansL(z r y s0 s1 s3 s4 s7 p0 p1 p2 p3 p5 p6 p7:Int)(q1 q2 q3 q4:Option Addr)(n1 c1 n2 c2 n3 c3 n4 c4:Nat)(gr:Bool):(#[.int .i64 z,.int .i64 r,.int .i64 y,.int .i64 s0,.int .i64 s1,.slice q1 n1 c1,.int .i64 s3,.int .i64 s4,.slice q2 n2 c2,.slice q3 n3 c3,.int .i64 s7,.int .i64 p0,.int .i64 p1,.int .i64 p2,.int .i64 p3,.slice q4 n4 c4,.int .i64 p5,.int .i64 p6,.int .i64 p7,.bool gr]:Array Value).all (·.oneCell')=true:=by simp [Value.oneCell']
theorem Ac.seq_chg(a:Ac)(c:Cmd):a.seq≤(a.chg c).seq∧(a.chg c).seq≤a.seq+1:=by
 unfold Ac.chg Ac.nx Ac.count
 split
 ·omega
 ·split
  ·simp only;omega
  ·split
   ·simp only;omega
   ·simp only;omega
theorem Ac.seq_act(a:Ac)(c:Cmd):a.seq≤(a.act c).seq∧(a.act c).seq≤a.seq+1:=by
 unfold Ac.act
 split
 ·unfold Ac.tick;split
  ·simp only;omega
  ·omega
 ·split
  ·exact a.seq_chg c
  ·omega
theorem sameState_any(td cy cr du sq:Int)(L M:List Int)(D:List Disp)(n m q:Nat)(a1 a2 a3 b1 b2 b3:Option Addr)(c1 c2 c3 d1 d2 d3:Nat)(w:World)(hn:L.length=n)(hm:M.length=m)(hq:D.length=q)(hl:n≤1000000∧m≤1000000∧q≤1000000)
  (h1:Reads w 1 (.slice a1 n c1) n (L.flatMap i64c)) (h2:Reads w 1 (.slice a2 m c2) m (M.flatMap i64c)) (h3:Reads w 5 (.slice a3 q c3) q (D.flatMap Disp.cells)) (k1:Reads w 1 (.slice b1 n d1) n (L.flatMap i64c)) (k2:Reads w 1 (.slice b2 m d2) m (M.flatMap i64c)) (k3:Reads w 5 (.slice b3 q d3) q (D.flatMap Disp.cells)):
  Calls Tryz.prog 29 #[.agg #[.int .i64 td,.int .i64 cy,.slice a1 n c1,.int .i64 cr,.int .i64 du,.slice a2 m c2,.slice a3 q c3,.int .i64 sq],.agg #[.int .i64 td,.int .i64 cy,.slice b1 n d1,.int .i64 cr,.int .i64 du,.slice b2 m d2,.slice b3 q d3,.int .i64 sq]] w
   fun e w'=>e= .returned (.bool true)∧Keeps (fun _=>False) w w':=by
 obtain⟨l1,l2,l3⟩:=hl;have hp:=fun W (hW:Keeps (fun _=>False) w W)=>samePos_any L n a1 b1 c1 d1 cr du W hn (h1.keeps hW (by simp)) (k1.keeps hW (by simp)) (by omega);have hr:=fun W (hW:Keeps (fun _=>False) w W)=>plainI64_same M (.slice a2 m c2) (.slice b2 m d2) W (by rw [hm];exact h2.keeps hW (by simp)) (by rw [hm];exact k2.keeps hW (by simp)) (by omega);have hd:=fun W (hW:Keeps (fun _=>False) w W)=>plainDisp_same D (.slice a3 q c3) (.slice b3 q d3) W (by rw [hq];exact h3.keeps hW (by simp)) (by rw [hq];exact k3.keeps hW (by simp)) (by omega);obtain⟨W0,hW0⟩:∃x,x=(w.alloc (.cells #[.int .i64 td,.int .i64 cy,.slice a1 n c1,.int .i64 cr,.int .i64 du,.slice a2 m c2,.slice a3 q c3,.int .i64 sq] 37)).alloc (.cells #[.int .i64 td,.int .i64 cy,.slice b1 n d1,.int .i64 cr,.int .i64 du,.slice b2 m d2,.slice b3 q d3,.int .i64 sq] 37):=⟨_,rfl⟩;have hx:∀W,Keeps (fun _=>False) W0 W→W.heap[w.heap.size]?=some (.cells #[.int .i64 td,.int .i64 cy,.slice a1 n c1,.int .i64 cr,.int .i64 du,.slice a2 m c2,.slice a3 q c3,.int .i64 sq] 37 (0,0)):=fun W hW=>Ad (by rw [hW0];exact Au (heap_alloc_new w _) _) hW (by simp);have hy:∀W,Keeps (fun _=>False) W0 W→W.heap[w.heap.size+1]?=some (.cells #[.int .i64 td,.int .i64 cy,.slice b1 n d1,.int .i64 cr,.int .i64 du,.slice b2 m d2,.slice b3 q d3,.int .i64 sq] 37 (0,0)):=fun W hW=>Ad (by rw [hW0];exact Ay _ _ (by simp)) hW (by simp);have hk0:Keeps (fun _=>False) w W0:=by rw [hW0];(repeat (first|exact Keeps.refl _ _|exact Keeps.alloc _ _|exact Keeps.drew _|exact Keeps.drewN _ _|refine Keeps.Ap ?_|refine Keeps.Al ?_|refine Keeps.Ae ?_))
 obtain⟨Hn,Hm,Hq,H1,H2,H3,K1,K2,K3⟩:=hid9 hn hm hq h1 h2 h3 k1 k2 k3;clear k3 k2 k1 h3 h2 h1 hq hm hn;obtain⟨Hp,Hr,Hd,Hx,Hy,Hk0⟩:=hid6 hp hr hd hx hy hk0;clear hk0 hy hx hd hr hp
 go_enter Tryz.func29,Tryz.ntmps29
 go_wp2_with fail
 rw [←hW0];clear hW0;refine(Hp.out W0 Hk0.out).mono ?_;rintro e w1 ⟨rfl,hk1⟩;have x5:=Aa (Hx.out w1 hk1) 5;have y5:=Aa (Hy.out w1 hk1) 5;have xl:=lt_of_block (Hx.out w1 hk1);have yl:=lt_of_block (Hy.out w1 hk1);have Hk1:=Lib.hid hk1;clear hk1
 go_wp2_with fail
 refine(Hr.out w1 (Hk0.out.nt Hk1.out)).mono ?_;rintro e w2 ⟨rfl,hk2⟩;clear x5 y5 xl yl;have hk12:=Hk1.out.nt hk2;have x6:=Aa (Hx.out w2 hk12) 6;have y6:=Aa (Hy.out w2 hk12) 6;have xl:=lt_of_block (Hx.out w2 hk12);have yl:=lt_of_block (Hy.out w2 hk12);have Hk12:=Lib.hid hk12;clear hk12 hk2
 go_wp2_with fail
 refine(Hd.out w2 (Hk0.out.nt Hk12.out)).mono ?_;rintro e w3 ⟨rfl,hk3⟩;clear x6 y6 xl yl;have hk13:=Hk12.out.nt hk3;have x7:=Aa (Hx.out w3 hk13) 7;have y7:=Aa (Hy.out w3 hk13) 7;have xl:=lt_of_block (Hx.out w3 hk13);have yl:=lt_of_block (Hy.out w3 hk13);have Hk13:=Lib.hid hk13;clear hk13 hk3
 go_wp2
 go_ret;exact⟨rfl,Hk0.out.nt Hk13.out⟩
set_option maxHeartbeats 3200000
theorem sameAns_nil(z:Int)(a1 a2 a3 a4:Option Addr)(c1 c2 c3 c4:Nat)(w:World)(h1:Reads w 1 (.slice a1 0 c1) 0 [])(h2:Reads w 1 (.slice a2 0 c2) 0 [])(h3:Reads w 5 (.slice a3 0 c3) 0 [])(h4:Reads w 3 (.slice a4 0 c4) 0 []):
  Calls Tryz.prog 31 #[.agg #[.int .i64 z,.int .i64 0,.int .i64 0,.int .i64 0,.int .i64 0,.slice a1 0 c1,.int .i64 0,.int .i64 0,.slice a2 0 c2,.slice a3 0 c3,.int .i64 0,.int .i64 0,.int .i64 0,.int .i64 0,.int .i64 0,.slice a4 0 c4,.int .i64 0,.int .i64 0,.int .i64 0,.bool false],.agg #[.int .i64 z,.int .i64 0,.int .i64 0,.int .i64 0,.int .i64 0,.slice none 0 0,.int .i64 0,.int .i64 0,.slice none 0 0,.slice none 0 0,.int .i64 0,.int .i64 0,.int .i64 0,.int .i64 0,.int .i64 0,.slice none 0 0,.int .i64 0,.int .i64 0,.int .i64 0,.bool false]] w
   fun e w'=>e= .returned (.bool true)∧Keeps (fun _=>False) w w':=by
 have hs:=fun W (hW:Keeps (fun _=>False) w W)=>sameState_any 0 0 0 0 0 [] [] [] 0 0 0 a1 a2 a3 none none none c1 c2 c3 0 0 0 W rfl rfl rfl (by decide) (h1.keeps hW (by simp)) (h2.keeps hW (by simp)) (h3.keeps hW (by simp)) (Reads.nil _ _) (Reads.nil _ _) (Reads.nil _ _);have hp:=fun W (hW:Keeps (fun _=>False) w W)=>sameStm_any stm00 (.slice a4 0 c4) (.slice none 0 0) W (h4.keeps hW (by simp)) (Reads.nil _ _) (by decide);simp only [stm00,Stm.val] at hp;obtain⟨W0,hW0⟩:∃x,x=(w.alloc (.cells #[.int .i64 z,.int .i64 0,.int .i64 0,.int .i64 0,.int .i64 0,.slice a1 0 c1,.int .i64 0,.int .i64 0,.slice a2 0 c2,.slice a3 0 c3,.int .i64 0,.int .i64 0,.int .i64 0,.int .i64 0,.int .i64 0,.slice a4 0 c4,.int .i64 0,.int .i64 0,.int .i64 0,.bool false] 44)).alloc (.cells #[.int .i64 z,.int .i64 0,.int .i64 0,.int .i64 0,.int .i64 0,.slice none 0 0,.int .i64 0,.int .i64 0,.slice none 0 0,.slice none 0 0,.int .i64 0,.int .i64 0,.int .i64 0,.int .i64 0,.int .i64 0,.slice none 0 0,.int .i64 0,.int .i64 0,.int .i64 0,.bool false] 44):=⟨_,rfl⟩;have hx:∀W,Keeps (fun _=>False) W0 W→W.heap[w.heap.size]?=some (.cells #[.int .i64 z,.int .i64 0,.int .i64 0,.int .i64 0,.int .i64 0,.slice a1 0 c1,.int .i64 0,.int .i64 0,.slice a2 0 c2,.slice a3 0 c3,.int .i64 0,.int .i64 0,.int .i64 0,.int .i64 0,.int .i64 0,.slice a4 0 c4,.int .i64 0,.int .i64 0,.int .i64 0,.bool false] 44 (0,0)):=fun W hW=>Ad (by rw [hW0];exact Au (heap_alloc_new w _) _) hW (by simp);have hy:∀W,Keeps (fun _=>False) W0 W→W.heap[w.heap.size+1]?=some (.cells #[.int .i64 z,.int .i64 0,.int .i64 0,.int .i64 0,.int .i64 0,.slice none 0 0,.int .i64 0,.int .i64 0,.slice none 0 0,.slice none 0 0,.int .i64 0,.int .i64 0,.int .i64 0,.int .i64 0,.int .i64 0,.slice none 0 0,.int .i64 0,.int .i64 0,.int .i64 0,.bool false] 44 (0,0)):=fun W hW=>Ad (by rw [hW0];exact Ay _ _ (by simp)) hW (by simp);have hk0:Keeps (fun _=>False) w W0:=by rw [hW0];(repeat (first|exact Keeps.refl _ _|exact Keeps.alloc _ _|exact Keeps.drew _|exact Keeps.drewN _ _|refine Keeps.Ap ?_|refine Keeps.Al ?_|refine Keeps.Ae ?_))
 obtain⟨H1,H2,H3,H4,Hs,Hp,Hx,Hy,Hk0⟩:=hid9 h1 h2 h3 h4 hs hp hx hy hk0;clear hk0 hy hx hp hs h4 h3 h2 h1
 go_enter Tryz.func31,Tryz.ntmps31
 go_wp2_with fail
 rw [←hW0];clear hW0;refine(Hs.out W0 Hk0.out).mono ?_;rintro e w1 ⟨rfl,hk1⟩;have hx1:=Hx.out w1 hk1;have hy1:=Hy.out w1 hk1;have xl:=lt_of_block hx1;have yl:=lt_of_block hy1;have x11:=Aa hx1 11;have x12:=Aa hx1 12;have x13:=Aa hx1 13;have x14:=Aa hx1 14;have x15:=Aa hx1 15;have x16:=Aa hx1 16;have x17:=Aa hx1 17;have x18:=Aa hx1 18;have x19:=Aa hx1 19;have y11:=Aa hy1 11;have y12:=Aa hy1 12;have y13:=Aa hy1 13;have y14:=Aa hy1 14;have y15:=Aa hy1 15;have y16:=Aa hy1 16;have y17:=Aa hy1 17;have y18:=Aa hy1 18;have y19:=Aa hy1 19;obtain⟨Hk1,Hx1,Hy1⟩:=hid3 hk1 hx1 hy1;clear hy1 hx1 hk1
 go_wp2_with fail
 refine(Hp.out w1 (Hk0.out.nt Hk1.out)).mono ?_;rintro e w2 ⟨rfl,hk2⟩;have hkf:=(Hk0.out.nt Hk1.out).nt hk2;clear hk2;have Hkf:=Lib.hid hkf;clear hkf
 go_wp2
 go_ret;exact⟨rfl,Hkf.out⟩
end Go.Proofs.YthffbjldpfionaaGreat
namespace Go.Proofs.YthffbjldpfionaaGreat
open Go.ChangeShapes Go.WideShapes Go.ChangeAt Go.RowKit Go.Deep
theorem laidOut:laidOutB Tryz.prog=true:=by kernel_rfl
theorem list_of{α:Type}{p:Nat→α→Prop}:∀n:Nat,(∀i,i<n→∃a,p i a)→∃L:List α,L.length=n∧∀i (a:α),L[i]?=some a→p i a
 |0,_=>⟨[],rfl,fun i a h=>by simp at h⟩
 |n+1,h=>by
  obtain⟨L,h1,h2⟩:=list_of n fun i hi=>h i (by omega);obtain⟨a,ha⟩:=h n (by omega);refine⟨L++ [a],by simp [h1],fun i b hb=> ?_⟩;rcases Nat.lt_or_ge i n with hi|hi
  ·rw [List.getElem?_append_left (by omega)] at hb;exact h2 i b hb
  ·rw [List.getElem?_append_right (by omega),h1] at hb;obtain rfl:i=n:=by
    rcases Nat.lt_or_ge n i with h'|h'
    ·rw [List.getElem?_eq_none (by simp;omega)] at hb;simp at hb
    ·omega
   simp at hb;subst hb;exact ha
theorem flat_at{α:Type}{f:α→List Value}{size:Nat}(hf:∀x,(f x).length=size)(hs:0<size){L:List α}{j:Nat}{u:Value}(h:(L.flatMap f)[j]?=some u):∃a,L[j / size]?=some a∧(f a)[j % size]?=some u:=by
 have hj:j<L.length*size:=by rw [←Dl hf L];exact Ck h
 have hk:j / size<L.length:=Nat.div_lt_of_lt_mul (by rw [Nat.mul_comm];exact hj);refine⟨L[j / size],List.getElem?_eq_getElem hk, ?_⟩;have:=flat_get hf (List.getElem?_eq_getElem hk) (Nat.mod_lt j hs);rw [←this,Nat.mul_comm,Nat.div_add_mod];exact h
theorem open_reads{H:Type}{enc:TypeId×Value→H}{w:World}{spare:Nat→Bool}{held:Bool}{α:Type}{f:α→List Value}{size:Nat}(hf:∀x,(f x).length=size)(hs:0<size){p:α→Prop}{t e:TypeId}{fuel:Nat}{ad:Option Addr}{len cap:Nat}{x:DataW H×List MemPlace}
  (ht:Tryz.prog.underlying t=some (.slice e)) (hc:Tryz.prog.cellsOf e=size)
  (hel:∀n cs d,DataW.trod enc Tryz.prog w 0 spare held n e cs=some d→∃a:α,cs=f a∧p a)
  (h:DataW.trod enc Tryz.prog w 0 spare held fuel t [.slice ad len cap]=some x):
  ∃L:List α,L.length=len∧Reads w size (.slice ad len cap) L.length (L.flatMap f)∧(∀a∈L,p a)∧L.length≤maxLen:=by
 rcases open_slice ht h with⟨h0,_⟩|⟨a,len',cap',m,n,D,Pl,h0,_,hl,hm,hmm,_,hx⟩
 ·simp only [List.cons.injEq,and_true,Value.slice.injEq] at h0;obtain⟨rfl,rfl,rfl⟩:=h0;exact⟨[],rfl,Reads.nil _ _,by simp,Nat.zero_le _⟩
 ·simp only [List.cons.injEq,and_true,Value.slice.injEq] at h0;obtain⟨rfl,rfl,rfl⟩:=h0;rw [hc] at hx;have hlm:len≤m:=by rw [hmm];split<;>omega
  obtain⟨L,hL,hLp⟩:=list_of (p:=fun i (b:α)=>w.cells? 0 (a.add (i*size)) size=some (f b)∧p b) len fun i hi=>by
   obtain⟨cs,h1,h2⟩:=hx i (by omega);obtain⟨b,rfl,hb⟩:=hel _ _ _ h2;exact⟨b,h1,hb⟩
  refine⟨L,hL,⟨some a,cap,by rw [hL],by omega,Dl hf L,by simp,fun j u hj=> ?_⟩,fun b hb=> ?_,by omega⟩
  ·obtain⟨b,hb,hu⟩:=flat_at hf hs hj;obtain⟨h1,_⟩:=hLp _ b hb;obtain⟨_,hlen,hcell⟩:=World.cells?_some h1;have hc1:=hcell (j % size) (Nat.mod_lt j hs);rw [hu] at hc1;have hadd:((a.add (j / size*size)).add (j % size))=a.add j:=by
    have hj:j / size*size+j % size=j:=by rw [Nat.mul_comm];exact Nat.div_add_mod j size
    unfold Addr.add
    split<;>split<;>split<;>simp_all<;>omega
   rw [hadd] at hc1;obtain⟨ab,ao,asp⟩:=a;rcases asp with _|sp
   ·exact⟨ab,ao,rfl,by rw [←add_mk];exact hc1⟩
   ·-- an address with a spot reads no cell at its own place
    exfalso;have hk:0<L.length:=by
     rcases Nat.eq_zero_or_pos L.length with h'|h'
     ·rw [List.eq_nil_of_length_eq_zero h'] at hj;simp at hj
     ·exact h'
    obtain⟨h1',_⟩:=hLp 0 _ (List.getElem?_eq_getElem hk);obtain⟨_,hlen',hcell'⟩:=World.cells?_some h1';have hc0:=hcell' 0 hs;rw [List.getElem?_eq_getElem (by omega)] at hc0;unfold World.cell? at hc0;simp only [Nat.zero_mul,Addr.add,if_true] at hc0
    split at hc0<;>simp at hc0
  ·obtain⟨i,hi⟩:=List.getElem?_of_mem hb;exact(hLp i b hi).2
end Go.Proofs.YthffbjldpfionaaGreat
namespace Go.Proofs.YthffbjldpfionaaGreat
open Go.ChangeShapes Go.WideShapes Go.ChangeAt Go.RowKit Go.Deep
set_option maxRecDepth 100000
theorem open_Cmd{H:Type}{enc:TypeId×Value→H}{w:World}{spare:Nat→Bool}{held:Bool}(n:Nat)(cs:List Value)(d:DataW H×List MemPlace)(h:DataW.trod enc Tryz.prog w 0 spare held n 47 cs=some d):∃a:Cmd,cs=a.cells∧a.wf:=by
 obtain⟨xs,m,rfl,_,hlen,hxs,hf⟩:=DataW.trod_struct Tryz.underlying47 h;have hl:cs.length=5:=hlen.trans (by kernel_rfl);have hx:xs.length=5:=hxs;have g0:=hf 0 _ rfl;rw [show Tryz.prog.cellsOf _=1 from by kernel_rfl,List.getElem?_eq_getElem (show 0<xs.length by omega)] at g0;have g1:=hf 1 _ rfl;rw [show Tryz.prog.cellsOf _=1 from by kernel_rfl,List.getElem?_eq_getElem (show 1<xs.length by omega)] at g1;have g2:=hf 2 _ rfl;rw [show Tryz.prog.cellsOf _=1 from by kernel_rfl,List.getElem?_eq_getElem (show 2<xs.length by omega)] at g2;have g3:=hf 3 _ rfl;rw [show Tryz.prog.cellsOf _=1 from by kernel_rfl,List.getElem?_eq_getElem (show 3<xs.length by omega)] at g3;have g4:=hf 4 _ rfl;rw [show Tryz.prog.cellsOf _=1 from by kernel_rfl,List.getElem?_eq_getElem (show 4<xs.length by omega)] at g4
 match cs,hl with
 | [c0,c1,c2,c3,c4],_=>
  obtain⟨a0,e0,_,w0⟩:=DataW.trod_int Tryz.underlying3 g0;simp at e0;subst e0;obtain⟨a1,e1,_,w1⟩:=DataW.trod_int Tryz.underlying3 g1;simp at e1;subst e1;obtain⟨a2,e2,_,w2⟩:=DataW.trod_int Tryz.underlying3 g2;simp at e2;subst e2;obtain⟨a3,e3,_,w3⟩:=DataW.trod_int Tryz.underlying2 g3;simp at e3;subst e3;obtain⟨a4,e4,_,w4⟩:=DataW.trod_int Tryz.underlying3 g4;simp at e4;subst e4;exact⟨⟨a0,a1,a2,a3,a4⟩,rfl,w0,w1,w2,w3,w4⟩
open Go.ChangeShapes Go.WideShapes Go.RowKit Go.Deep
def Ev.wf(a:Ev):Prop:=(Lit.int .i64 a.kind).wf=true∧(Lit.int .i64 a.day).wf=true∧(Lit.int .i64 a.tranche).wf=true∧(Lit.int .i64 a.amount).wf=true∧(Lit.int .i64 a.ref).wf=true
def Tn.wf(a:Tn):Prop:=(Lit.int .i64 a.rate).wf=true∧True
theorem open_Tn{H:Type}{enc:TypeId×Value→H}{w:World}{spare:Nat→Bool}{held:Bool}(n:Nat)(cs:List Value)(d:DataW H×List MemPlace)(h:DataW.trod enc Tryz.prog w 0 spare held n 83 cs=some d):∃a:Tn,cs=a.cells∧a.wf:=by
 obtain⟨xs,m,rfl,_,hlen,hxs,hf⟩:=DataW.trod_struct Tryz.underlying83 h;have hl:cs.length=2:=hlen.trans (by kernel_rfl);have hx:xs.length=2:=hxs;have g0:=hf 0 _ rfl;rw [show Tryz.prog.cellsOf _=1 from by kernel_rfl,List.getElem?_eq_getElem (show 0<xs.length by omega)] at g0;have g1:=hf 1 _ rfl;rw [show Tryz.prog.cellsOf _=1 from by kernel_rfl,List.getElem?_eq_getElem (show 1<xs.length by omega)] at g1
 match cs,hl with
 | [c0,c1],_=>
  obtain⟨a0,e0,_,w0⟩:=DataW.trod_int Tryz.underlying2 g0;simp at e0;subst e0;obtain⟨a1,e1,_⟩:=DataW.trod_bool Tryz.underlying4 g1;simp at e1;subst e1;exact⟨⟨a0,a1⟩,rfl,w0,trivial⟩
def Tm.list(t:Tm)(ad:Option Addr)(cap:Nat):List Value:= [.int .i64 t.limit,.slice ad t.trs.length cap,.int .i64 t.cyc,.int .i64 t.due,.int .i64 t.minFixed,.int .i64 t.minPart,.int .i64 t.start]
def Tm.wf(t:Tm):Prop:=(Lit.int .i64 t.limit).wf=true∧(Lit.int .i64 t.start).wf=true
theorem open_Tm{H:Type}{enc:TypeId×Value→H}{w:World}{spare:Nat→Bool}{held:Bool}(n:Nat)(cs:List Value)(d:DataW H×List MemPlace)(h:DataW.trod enc Tryz.prog w 0 spare held n 29 cs=some d):
  ∃(s:Tm) (ad:Option Addr) (cap:Nat),cs=s.list ad cap∧
   Reads w 2 (.slice ad s.trs.length cap) s.trs.length (s.trs.flatMap Tn.cells)∧s.trs.length≤maxLen:=by
 obtain⟨xs,m,rfl,_,hlen,hxs,hf⟩:=DataW.trod_struct Tryz.underlying29 h;have hl:cs.length=7:=hlen.trans (by kernel_rfl);have hx:xs.length=7:=hxs;have g0:=hf 0 _ rfl;have g1:=hf 1 _ rfl;have g2:=hf 2 _ rfl;have g3:=hf 3 _ rfl;have g4:=hf 4 _ rfl;have g5:=hf 5 _ rfl;have g6:=hf 6 _ rfl;rw [show Tryz.prog.cellsOf _=1 from by kernel_rfl,List.getElem?_eq_getElem (show 0<xs.length by omega)] at g0;rw [show Tryz.prog.cellsOf _=1 from by kernel_rfl,List.getElem?_eq_getElem (show 1<xs.length by omega)] at g1;rw [show Tryz.prog.cellsOf _=1 from by kernel_rfl,List.getElem?_eq_getElem (show 2<xs.length by omega)] at g2;rw [show Tryz.prog.cellsOf _=1 from by kernel_rfl,List.getElem?_eq_getElem (show 3<xs.length by omega)] at g3;rw [show Tryz.prog.cellsOf _=1 from by kernel_rfl,List.getElem?_eq_getElem (show 4<xs.length by omega)] at g4;rw [show Tryz.prog.cellsOf _=1 from by kernel_rfl,List.getElem?_eq_getElem (show 5<xs.length by omega)] at g5;rw [show Tryz.prog.cellsOf _=1 from by kernel_rfl,List.getElem?_eq_getElem (show 6<xs.length by omega)] at g6
 match cs,hl with
 | [c0,c1,c2,c3,c4,c5,c6],_=>
  obtain⟨a0,e0,_,w0⟩:=DataW.trod_int Tryz.underlying2 g0;simp at e0;subst e0;obtain⟨ad,len,cap,e4⟩:∃ad len cap,c1= .slice ad len cap:=by
   rcases open_slice Tryz.underlying27 g1 with⟨h0,_⟩|⟨a,len',cap',m,n,D,Pl,h0,_⟩
   ·simp at h0;exact⟨_,_,_,h0⟩
   ·simp at h0;exact⟨_,_,_,h0⟩
  subst e4;obtain⟨L,hLl,hr,_,hm⟩:=open_reads (f:=Tn.cells) (size:=2) Tn.Am (by decide) Tryz.underlying27 (by kernel_rfl) (fun n cs d hd=>open_Tn n cs d hd) g1;subst hLl;obtain⟨a2,e2,_,w2⟩:=DataW.trod_int Tryz.underlying3 g2;simp at e2;subst e2;obtain⟨a3,e3,_,w3⟩:=DataW.trod_int Tryz.underlying3 g3;simp at e3;subst e3;obtain⟨a4,e4,_,w4⟩:=DataW.trod_int Tryz.underlying2 g4;simp at e4;subst e4;obtain⟨a5,e5,_,w5⟩:=DataW.trod_int Tryz.underlying2 g5;simp at e5;subst e5;obtain⟨a6,e6,_,w6⟩:=DataW.trod_int Tryz.underlying3 g6;simp at e6;subst e6;exact⟨⟨a0,a2,a3,a4,a5,a6,L⟩,ad,cap,rfl,hr,hm⟩
open Go.RowKit
theorem info_tCmd:(Tryz.prog.info? 47).map (fun i=>(i.zero,i.size,i.bytes))=some (some (.agg #[.int .i64 0,.int .i64 0,.int .i64 0,.int .i64 0,.int .i64 0]),5,40):=by kernel_rfl
def CmdAt(w:World)(O:List Cmd)(v:Value)(W:World):Prop:=W.ownsRow 0 47 5 v O.length (O.flatMap Cmd.cells)∧Keeps (fun _=>False) w W∧∀g,v.ownBlock=some g→w.heap.size≤g
def CmPost(w:World)(m:Nat)(e:Ending)(w':World):Prop:=∃v O,e= .returned v∧CmdAt w O v w'∧O.length≤m
theorem CmdAt.app{w wq w4:World}{O:List Cmd}{o m:Nat}{av:Option Addr}{cv:Nat}{v4:Value}{x:Cmd}{c1 c2:Obj}{xs:List Value}(h:CmdAt w O (.slice av o cv) wq)(ho:O.length=o)(hr:w4.ownsRow 0 47 5 v4 m xs)(hk:Keeps (fun k=>(Value.slice av o cv).ownBlock=some k) ((wq.alloc c1).alloc c2) w4)(hf:v4.ownBlock=(Value.slice av o cv).ownBlock∨∃g,v4.ownBlock=some g∧((wq.alloc c1).alloc c2).heap.size≤g)
  (hm:m=o+1:=by rfl) (hx:xs=O.flatMap Cmd.cells++x.cells:=by rfl):CmdAt w (O++ [x]) v4 w4:=by
 subst hm hx;have h0:Keeps (fun _=>False) wq ((wq.alloc c1).alloc c2):=(Keeps.alloc _ _).Ae;have hs:=h.2.1.size;have hs2:=h0.size;refine⟨by rw [List.length_append,ho,List.flatMap_append];simpa using hr,(h.2.1.nt h0).trans (hk.mono fun i _ e=> .inr (h.2.2 i e)),fun g hg=> ?_⟩;rcases hf with e|⟨g',e,h'⟩
 ·exact h.2.2 g (by rw [←e];exact hg)
 ·rw [e] at hg;simp only [Option.some.injEq] at hg;omega
set_option maxHeartbeats 3200000
theorem playCommands_any(L:List Cmd)(ad:Option Addr)(cap N m:Nat)(w:World)(hN:L.length=N)(hr:Reads w 5 (.slice ad N cap) N (L.flatMap Cmd.cells))(hl:N≤9223372036854775807)(hm:m≤1000):
  Calls Tryz.prog 25 #[.slice ad N cap,.int .i64 (m:Nat)] w (CmPost w m):=by
 obtain⟨i0,hi,hi0,hi1,hi2⟩:=info_parts info_tCmd;obtain⟨HN,Hr,Hi,Hi0,Hi1,Hi2⟩:=hid6 hN hr hi hi0 hi1 hi2;clear hi2 hi1 hi0 hi hr hN
 go_enter Tryz.func25,Tryz.ntmps25
 go_wp2
 go_loopw [5,6,7] (fun y z x wx=>∃(i:Nat) (O:List Cmd) (v:Value) (d:Int),v=y∧x= .int .i64 (i:Nat)∧z= .int .i64 d∧i≤N∧O.length≤m∧CmdAt w O v wx) (fun _ _ x _=>N-(intOf x).toNat)
 case atStart=>exact⟨0, [],_,0,rfl,rfl,rfl,Nat.zero_le _,Nat.zero_le _,World.ownsRow_nil _ _ _ _,Keeps.refl _ _,by simp [Value.ownBlock]⟩
 case round=>
  obtain⟨i,O,v,d,rfl,rfl,rfl,hin,hom,hat⟩:=hrel;have hk:=hat.2.1;obtain⟨wq,hwq⟩:∃x,x=wr:=⟨_,rfl⟩;subst hwq;obtain⟨o,ho⟩:∃o,O.length=o:=⟨_,rfl⟩;have hrow:=hat.1;rw [ho] at hrow hom;obtain⟨av,cv,rfl⟩:∃a c,v= .slice a o c:=by obtain⟨a,c,h,_⟩:=Aj hrow;exact⟨a,c,h⟩
  by_cases hlt:i<N
  ·have hltI:(i:Int)<(N:Int):=by omega
   by_cases hlo:o<m
   ·have hloI:(o:Int)<(m:Int):=by omega
    obtain⟨x,hx⟩:=Av (L:=L) (k:=i) (by rw [HN.out];exact hlt);obtain⟨g,q,c',he,hc⟩:=(Hr.out.keeps hk (by simp)).elem Cmd.Am hx (by decide);simp only [Value.slice.injEq,true_and] at he;obtain⟨rfl,rfl⟩:=he;obtain⟨ki,da,tr,am,re⟩:=x;have x0:wq.cell? ⟨g,q+i*5,none⟩=some (.int .i64 ki):=hc 0 (by decide);have x1:wq.cell? ⟨g,q+i*5+1,none⟩=some (.int .i64 da):=hc 1 (by decide);have x2:wq.cell? ⟨g,q+i*5+2,none⟩=some (.int .i64 tr):=hc 2 (by decide);have x3:wq.cell? ⟨g,q+i*5+3,none⟩=some (.int .i64 am):=hc 3 (by decide);have x4:wq.cell? ⟨g,q+i*5+4,none⟩=some (.int .i64 re):=hc 4 (by decide);clear hc;have Hrow:=Lib.hid hrow;clear hrow;by_cases k8:ki=8
    ·subst k8;by_cases d0:0<da
     ·by_cases hs:400<wrap64 (d+da)
      ·obtain⟨Hat,Ho,Hx,Hk⟩:=hid4 hat ho hx hk;clear hk hx ho hat
       go_wp2
       go_roundw
       case rel=>exact⟨i+1,O,_,d,rfl,by go_num,rfl,by omega,by rw [Ho.out];omega,Hrow.out|>fun h=>⟨by rw [Ho.out];exact h.alloc _,Hk.out.nt (Keeps.alloc _ _),Hat.out.2.2⟩⟩
       case measure=>simp [intOf];omega
      ·obtain⟨Hat,Ho,Hx,Hk⟩:=hid4 hat ho hx hk;clear hk hx ho hat
       go_wp2_with (at_builtin;refine Ba rfl (.tmp 42) (.tmp 44) 63 rfl 0 47 i0 _ 5 40 Tryz.underlying63 Hi.out Hi0.out Hi1.out Hi2.out rfl (by decide) (.slice av o cv) o _ rfl ((Hrow.out.alloc _).alloc _) _ 1 _ rfl (Reads.litAt _ _ _ 5 1 _ (by first|rfl|simp) rfl) (by simp [Value.oneCell']) (by unfold maxLen;omega) (by omega) (Nat.zero_le _) ?_;intro v4 w4 hown4 hk4 hf4;have hg4:=Lib.hid (CmdAt.app (x:=⟨8,da,tr,am,re⟩) Hat.out Ho.out hown4 hk4 hf4);clear hown4 hk4 hf4)
       go_roundw
       case rel=>exact⟨i+1,O++ [⟨8,da,tr,am,re⟩],_,(wrap64 (d+da)),rfl,by go_num,rfl,by omega,by rw [List.length_append,Ho.out];simp;omega,hg4.out⟩
       case measure=>simp [intOf];omega
     ·obtain⟨Hat,Ho,Hx,Hk⟩:=hid4 hat ho hx hk;clear hk hx ho hat
      go_wp2_with (at_builtin;refine Ba rfl (.tmp 42) (.tmp 44) 63 rfl 0 47 i0 _ 5 40 Tryz.underlying63 Hi.out Hi0.out Hi1.out Hi2.out rfl (by decide) (.slice av o cv) o _ rfl ((Hrow.out.alloc _).alloc _) _ 1 _ rfl (Reads.litAt _ _ _ 5 1 _ (by first|rfl|simp) rfl) (by simp [Value.oneCell']) (by unfold maxLen;omega) (by omega) (Nat.zero_le _) ?_;intro v4 w4 hown4 hk4 hf4;have hg4:=Lib.hid (CmdAt.app (x:=⟨8,da,tr,am,re⟩) Hat.out Ho.out hown4 hk4 hf4);clear hown4 hk4 hf4)
      go_roundw
      case rel=>exact⟨i+1,O++ [⟨8,da,tr,am,re⟩],_,d,rfl,by go_num,rfl,by omega,by rw [List.length_append,Ho.out];simp;omega,hg4.out⟩
      case measure=>simp [intOf];omega
    ·have k8':(ki==8)=false:=beq_eq_false_iff_ne.2 k8;clear k8;obtain⟨Hat,Ho,Hx,Hk⟩:=hid4 hat ho hx hk;clear hk hx ho hat
     go_wp2_with (at_builtin;refine Ba rfl (.tmp 42) (.tmp 44) 63 rfl 0 47 i0 _ 5 40 Tryz.underlying63 Hi.out Hi0.out Hi1.out Hi2.out rfl (by decide) (.slice av o cv) o _ rfl ((Hrow.out.alloc _).alloc _) _ 1 _ rfl (Reads.litAt _ _ _ 5 1 _ (by first|rfl|simp) rfl) (by simp [Value.oneCell']) (by unfold maxLen;omega) (by omega) (Nat.zero_le _) ?_;intro v4 w4 hown4 hk4 hf4;have hg4:=Lib.hid (CmdAt.app (x:=⟨ki,da,tr,am,re⟩) Hat.out Ho.out hown4 hk4 hf4);clear hown4 hk4 hf4)
     go_roundw
     case rel=>exact⟨i+1,O++ [⟨ki,da,tr,am,re⟩],_,d,rfl,by go_num,rfl,by omega,by rw [List.length_append,Ho.out];simp;omega,hg4.out⟩
     case measure=>simp [intOf];omega
   ·have hloI:¬(o:Int)<(m:Int):=by omega
    exact jY9
  ·obtain rfl:N=i:=by omega
   exact jY9
def uq(x m:Int):Int:=IntKind.u64.wrap x % m
theorem uq_bd(x:Int){m:Int}(hm:0<m):0≤uq x m∧uq x m<m:=⟨Int.emod_nonneg _ (by omega),Int.emod_lt_of_pos _ hm⟩
def playTrs(L:List Tn):List Tn:=if((L.take 8).map fun x=>(⟨uq x.rate 3000000,x.grace⟩:Tn))= [] then [⟨500000,false⟩] else(L.take 8).map fun x=>⟨uq x.rate 3000000,x.grace⟩
def playT(t:Tm):Tm:=if({ t with start:=10957+uq t.start 400 }:Tm).err=0 then { t with start:=10957+uq t.start 400 } else⟨uq t.limit 100000,1+uq t.cyc 28,1+uq t.due 25,uq t.minFixed 100,uq t.minPart 101,10957+uq t.start 400,playTrs t.trs⟩
theorem inB_iff(v a b:Int):inB v a b=true↔a≤v∧v≤b:=by simp [inB]
theorem playTrs_ok(L:List Tn):1≤(playTrs L).length∧(playTrs L).length≤8∧∀x∈playTrs L,x.okB=true:=by
 unfold playTrs
 split
 ·refine⟨by simp,by simp,fun x hx=> ?_⟩;obtain rfl:x=⟨500000,false⟩:=by simpa using hx
  rfl
 ·rename_i h
  have hl:((L.take 8).map fun x=>(⟨uq x.rate 3000000,x.grace⟩:Tn)).length≠0:=fun e=>h (List.eq_nil_of_length_eq_zero e);have hl2:((L.take 8).map fun x=>(⟨uq x.rate 3000000,x.grace⟩:Tn)).length≤8:=by rw [List.length_map,List.length_take];omega
  refine⟨by omega,hl2,fun x hx=> ?_⟩;obtain⟨y,_,rfl⟩:=List.mem_map.1 hx;have:=uq_bd y.rate (m:=3000000) (by decide);exact(inB_iff _ _ _).2 ⟨this.1,by show uq y.rate 3000000≤_;omega⟩
theorem playT_ok(t:Tm):(playT t).err=0∧10957≤(playT t).start∧(playT t).start≤11356:=by
 have hs:=uq_bd t.start (m:=400) (by decide);unfold playT
 split
 ·rename_i h
  exact⟨h,by show 10957≤10957+uq t.start 400;omega,by show 10957+uq t.start 400≤11356;omega⟩
 ·refine⟨?_,by show 10957≤10957+uq t.start 400;omega,by show 10957+uq t.start 400≤11356;omega⟩;obtain⟨h1,h2,h3⟩:=playTrs_ok t.trs;have l:=uq_bd t.limit (m:=100000) (by decide);have c:=uq_bd t.cyc (m:=28) (by decide);have d:=uq_bd t.due (m:=25) (by decide);have f:=uq_bd t.minFixed (m:=100) (by decide);have p:=uq_bd t.minPart (m:=101) (by decide);unfold Tm.err;rw [if_pos];simp only [Tm.okB,Bool.and_eq_true,inB_iff,List.all_eq_true];refine⟨⟨⟨?_, ?_⟩,h3⟩,⟨⟨⟨?_, ?_⟩, ?_⟩, ?_⟩, ?_⟩<;>constructor<;>omega
theorem rtmRight_big(t:Tm)(ad:Option Addr)(cap:Nat)(w:World)(hr:Reads w 2 (.slice ad t.trs.length cap) t.trs.length (t.trs.flatMap Tn.cells))(hl:t.trs.length≤9223372036854775807):
  Calls Tryz.prog 49 #[t.val (.slice ad t.trs.length cap)] w fun e w'=>e= .returned (.int .i64 t.err)∧Keeps (fun _=>False) w w':=by
 obtain⟨li,cy,du,mf,mp,st,L⟩:=t;simp only [Tm.val] at hr hl⊢;obtain⟨n,hn⟩:∃n,L.length=n:=⟨_,rfl⟩;have hf0:Tm.err ⟨li,cy,du,mf,mp,st,L⟩=if(inB li 0 1000000000000000&&inB (n:Int) 1 8&&L.all Tn.okB&&(inB cy 1 28&&inB du 1 25&&inB mf 0 1000000000000000&&inB mp 0 1000&&inB st (-135140) 2922896))=true then 0 else 6:=by
  simp only [Tm.err,Tm.okB,hn]
 rw [hn] at hr hl⊢;obtain⟨ok0,hok0⟩:∃b,(inB li 0 1000000000000000&&inB (n:Int) 1 8)=b:=⟨_,rfl⟩;rw [hok0] at hf0;have hbox:=heap_alloc_new w (.cells #[.int .i64 li,.slice ad n cap,.int .i64 cy,.int .i64 du,.int .i64 mf,.int .i64 mp,.int .i64 st] 29);obtain⟨Hr,Hf0,Hn,Hbox⟩:=hid4 hr hf0 hn hbox;clear hbox hn hf0 hr
 go_enter Tryz.func49,Tryz.ntmps49
 go_upto_region 1 with(fail)
 go_cut [3] (fun s3 wx=>s3= .bool ok0∧wx=w.alloc (.cells #[.int .i64 li,.slice ad n cap,.int .i64 cy,.int .i64 du,.int .i64 mf,.int .i64 mp,.int .i64 st] 29))
 case first=>
  rcases b1:inB li 0 1000000000000000 with _|_
  ·exact jY21
  ·by_cases l1:n<1
   ·obtain rfl:n=0:=by omega
    exact jY21
   ·by_cases l2:8<n
    ·have:ok0=false:=by rw [←hok0,b1];simp [inB];omega
     subst this;have l2':(8:Int)<(n:Int):=by omega
     have l1':(1:Int)≤(n:Int):=by omega
     obtain⟨B1,Hok0⟩:=hid2 b1 hok0;clear hok0 b1
     go_wp2_with (go_at_call 73;((with_reducible refine(rtmWithin_at B1.out _).mono ?_);rintro e w1 ⟨rfl,rfl⟩))
     go_meet
     exact⟨by simp;omega,rfl⟩
    ·have:ok0=true:=by rw [←hok0,b1];simp [inB];omega
     subst this;have l1':(1:Int)≤(n:Int):=by omega
     have l2':(n:Int)≤8:=by omega
     exact jY7
 case rest=>
  obtain⟨rfl,rfl⟩:=hcut;clear hok0
  go_wp2_with fail
  go_loopw [3,4] (fun b c wr=>∃(j:Nat) (ok:Bool),j≤n∧c= .int .i64 (j:Nat)∧b= .bool ok∧ok=(ok0&&(L.take j).all Tn.okB)∧Keeps (fun _=>False) w wr∧wr.heap[w.heap.size]?=some (.cells #[.int .i64 li,.slice ad n cap,.int .i64 cy,.int .i64 du,.int .i64 mf,.int .i64 mp,.int .i64 st] 29 (0,0))) (fun _ c _=>n-(intOf c).toNat)
  case atStart=>exact⟨0,ok0,Nat.zero_le _,rfl,rfl,by simp,Keeps.alloc _ _,Hbox.out⟩
  case round=>
   obtain⟨j,ok,hj,rfl,rfl,hok,hk,hb⟩:=hrel;have hbl:=lt_of_block hb;have c1:wr.cell? ⟨w.heap.size,1,none⟩=some (.slice ad n cap):=Aa hb 1;by_cases hjl:j<n
   ·obtain⟨⟨xr,xg⟩,hx⟩:=Av (L:=L) (k:=j) (by rw [Hn.out];exact hjl);obtain⟨g,o,c,he,hc⟩:=(Hr.out.keeps hk (by simp)).elem Tn.Am hx (by decide);simp only [Value.slice.injEq,true_and] at he;obtain⟨rfl,rfl⟩:=he;have x0:wr.cell? ⟨g,o+j*2,none⟩=some (.int .i64 xr):=hc 0 (by decide);clear hc;have hok':(ok&&inB xr 0 10000000)=(ok0&&(L.take (j+1)).all Tn.okB):=by
     rw [take_snoc' hx,List.all_append,hok];simp [Tn.okB,Bool.and_assoc]
    cases ok with
    |false=>
     obtain⟨Hx,Hok,Hk,Hb,Hok'⟩:=hid5 hx hok hk hb hok';clear hok' hb hk hok hx
     go_wp2_with fail
     go_roundw
     case rel=>exact⟨j+1,false,by omega,by go_num,rfl,by rw [←Hok'.out];rfl,Hk.out,Hb.out⟩
     case measure=>simp [intOf];omega
    |true=>
     rcases b3:inB xr 0 10000000 with _|_
     ·rw [b3] at hok';obtain⟨Hx,Hok,Hk,Hb,Hok',B3⟩:=hid6 hx hok hk hb hok' b3;clear b3 hok' hb hk hok hx
      go_wp2_with (go_at_call 73;((with_reducible refine(rtmWithin_at B3.out _).mono ?_);rintro e w1 ⟨rfl,rfl⟩))
      go_roundw
      case rel=>exact⟨j+1,false,by omega,by go_num,rfl,by rw [←Hok'.out];rfl,Hk.out,Hb.out⟩
      case measure=>simp [intOf];omega
     ·rw [b3] at hok';obtain⟨Hx,Hok,Hk,Hb,Hok',B3⟩:=hid6 hx hok hk hb hok' b3;clear b3 hok' hb hk hok hx
      go_wp2_with (go_at_call 73;((with_reducible refine(rtmWithin_at B3.out _).mono ?_);rintro e w1 ⟨rfl,rfl⟩))
      go_roundw
      case rel=>exact⟨j+1,true,by omega,by go_num,rfl,by rw [←Hok'.out];rfl,Hk.out,Hb.out⟩
      case measure=>simp [intOf];omega
   ·obtain rfl:j=n:=by omega
    rw [List.take_of_length_le (by rw [Hn.out];exact Nat.le_refl _)] at hok;have hf1:=Hf0.out;rw [←hok] at hf1;have c2:wr.cell? ⟨w.heap.size,2,none⟩=some (.int .i64 cy):=Aa hb 2;have c3:wr.cell? ⟨w.heap.size,3,none⟩=some (.int .i64 du):=Aa hb 3;have c4:wr.cell? ⟨w.heap.size,4,none⟩=some (.int .i64 mf):=Aa hb 4;have c5:wr.cell? ⟨w.heap.size,5,none⟩=some (.int .i64 mp):=Aa hb 5;have c6:wr.cell? ⟨w.heap.size,6,none⟩=some (.int .i64 st):=Aa hb 6
    cases ok with
    |false=>
     have hf:Tm.err ⟨li,cy,du,mf,mp,st,L⟩=6:=by rw [hf1];simp
     obtain⟨Hok,Hk,Hb,Hf,Hf1⟩:=hid5 hok hk hb hf hf1;clear hf1 hf hb hk hok
     go_wp2_with fail
     go_ret;exact⟨by rw [Hf.out];rfl,Hk.out⟩
    |true=>
     rw [Bool.true_and] at hf1;rcases bc:inB cy 1 28 with _|_
     ·have hf:Tm.err ⟨li,cy,du,mf,mp,st,L⟩=6:=by rw [hf1,bc];simp
      obtain⟨Hok,Hk,Hb,Hf,Hf1,Bc⟩:=hid6 hok hk hb hf hf1 bc;clear bc hf1 hf hb hk hok
      go_wp2_with (go_at_call 73;((with_reducible refine(rtmWithin_at Bc.out _).mono ?_);rintro e w1 ⟨rfl,rfl⟩))
      exact jY18
     rcases bd:inB du 1 25 with _|_
     ·have hf:Tm.err ⟨li,cy,du,mf,mp,st,L⟩=6:=by rw [hf1,bd];simp
      obtain⟨Hok,Hk,Hb,Hf,Hf1,Bc,Bd⟩:=hid7 hok hk hb hf hf1 bc bd;clear bd bc hf1 hf hb hk hok
      go_wp2_with (first|(go_at_call 73;((with_reducible refine(rtmWithin_at Bc.out _).mono ?_);rintro e w1 ⟨rfl,rfl⟩))|(go_at_call 73;((with_reducible refine(rtmWithin_at Bd.out _).mono ?_);rintro e w1 ⟨rfl,rfl⟩)))
      exact jY18
     rcases bf:inB mf 0 1000000000000000 with _|_
     ·have hf:Tm.err ⟨li,cy,du,mf,mp,st,L⟩=6:=by rw [hf1,bf];simp
      obtain⟨Hok,Hk,Hb,Hf,Hf1,Bc,Bd,Bf⟩:=hid8 hok hk hb hf hf1 bc bd bf;clear bf bd bc hf1 hf hb hk hok
      go_wp2_with (first|(go_at_call 73;((with_reducible refine(rtmWithin_at Bc.out _).mono ?_);rintro e w1 ⟨rfl,rfl⟩))|(go_at_call 73;((with_reducible refine(rtmWithin_at Bd.out _).mono ?_);rintro e w1 ⟨rfl,rfl⟩))|(go_at_call 73;((with_reducible refine(rtmWithin_at Bf.out _).mono ?_);rintro e w1 ⟨rfl,rfl⟩)))
      exact jY18
     rcases bp:inB mp 0 1000 with _|_
     ·have hf:Tm.err ⟨li,cy,du,mf,mp,st,L⟩=6:=by rw [hf1,bp];simp
      obtain⟨Hok,Hk,Hb,Hf,Hf1,Bc,Bd,Bf,Bp⟩:=hid9 hok hk hb hf hf1 bc bd bf bp;clear bp bf bd bc hf1 hf hb hk hok
      go_wp2_with (first|(go_at_call 73;((with_reducible refine(rtmWithin_at Bc.out _).mono ?_);rintro e w1 ⟨rfl,rfl⟩))|(go_at_call 73;((with_reducible refine(rtmWithin_at Bd.out _).mono ?_);rintro e w1 ⟨rfl,rfl⟩))|(go_at_call 73;((with_reducible refine(rtmWithin_at Bf.out _).mono ?_);rintro e w1 ⟨rfl,rfl⟩))|(go_at_call 73;((with_reducible refine(rtmWithin_at Bp.out _).mono ?_);rintro e w1 ⟨rfl,rfl⟩)))
      exact jY18
     rcases bs:inB st (-135140) 2922896 with _|_
     ·have hf:Tm.err ⟨li,cy,du,mf,mp,st,L⟩=6:=by rw [hf1,bs];simp
      obtain⟨Hok,Hk,Hb,Hf,Hf1,Bc,Bd,Bf,Bp⟩:=hid9 hok hk hb hf hf1 bc bd bf bp;clear bp bf bd bc hf1 hf hb hk hok;have Bs:=Lib.hid bs;clear bs
      go_wp2_with (first|(go_at_call 73;((with_reducible refine(rtmWithin_at Bc.out _).mono ?_);rintro e w1 ⟨rfl,rfl⟩))|(go_at_call 73;((with_reducible refine(rtmWithin_at Bd.out _).mono ?_);rintro e w1 ⟨rfl,rfl⟩))|(go_at_call 73;((with_reducible refine(rtmWithin_at Bf.out _).mono ?_);rintro e w1 ⟨rfl,rfl⟩))|(go_at_call 73;((with_reducible refine(rtmWithin_at Bp.out _).mono ?_);rintro e w1 ⟨rfl,rfl⟩))|(go_at_call 73;((with_reducible refine(rtmWithin_at Bs.out _).mono ?_);rintro e w1 ⟨rfl,rfl⟩)))
      exact jY18
     have hf:Tm.err ⟨li,cy,du,mf,mp,st,L⟩=0:=by rw [hf1,bc,bd,bf,bp,bs];simp
     obtain⟨Hok,Hk,Hb,Hf,Hf1,Bc,Bd,Bf,Bp⟩:=hid9 hok hk hb hf hf1 bc bd bf bp;clear bp bf bd bc hf1 hf hb hk hok;have Bs:=Lib.hid bs;clear bs
     go_wp2_with (first|(go_at_call 73;((with_reducible refine(rtmWithin_at Bc.out _).mono ?_);rintro e w1 ⟨rfl,rfl⟩))|(go_at_call 73;((with_reducible refine(rtmWithin_at Bd.out _).mono ?_);rintro e w1 ⟨rfl,rfl⟩))|(go_at_call 73;((with_reducible refine(rtmWithin_at Bf.out _).mono ?_);rintro e w1 ⟨rfl,rfl⟩))|(go_at_call 73;((with_reducible refine(rtmWithin_at Bp.out _).mono ?_);rintro e w1 ⟨rfl,rfl⟩))|(go_at_call 73;((with_reducible refine(rtmWithin_at Bs.out _).mono ?_);rintro e w1 ⟨rfl,rfl⟩)))
     go_ret;exact⟨by rw [Hf.out];rfl,Hk.out⟩
theorem rtmRight_bigAt(t:Tm)(v:Value)(w:World){z:Int}(hz:t.err=z)(hr:Reads w 2 v t.trs.length (t.trs.flatMap Tn.cells))(hl:t.trs.length≤9223372036854775807):
  Calls Tryz.prog 49 #[.agg #[.int .i64 t.limit,v,.int .i64 t.cyc,.int .i64 t.due,.int .i64 t.minFixed,.int .i64 t.minPart,.int .i64 t.start]] w fun e w'=>e= .returned (.int .i64 z)∧Keeps (fun _=>False) w w':=by
 have hr':=hr;obtain⟨ad,c,rfl,_⟩:=hr';subst hz;exact rtmRight_big t ad c w hr hl
theorem store7{W:World}{R:Nat}{t:TypeId}{a0 a1 a2 a3 a4 a5 a6:Value}(h:W.heap[R]?=some (.cells #[a0,a1,a2,a3,a4,a5,a6] t (0,0)))(v0 v1 v2 v3 v4 v5 v6:Value):
  (((((((W.setCell ⟨R,0,none⟩ v0).setCell ⟨R,1,none⟩ v1).setCell ⟨R,2,none⟩ v2).setCell ⟨R,3,none⟩ v3).setCell ⟨R,4,none⟩ v4).setCell ⟨R,5,none⟩ v5).setCell ⟨R,6,none⟩ v6).heap[R]?=some (.cells #[v0,v1,v2,v3,v4,v5,v6] t (0,0))∧Keeps (fun i=>i=R) W (((((((W.setCell ⟨R,0,none⟩ v0).setCell ⟨R,1,none⟩ v1).setCell ⟨R,2,none⟩ v2).setCell ⟨R,3,none⟩ v3).setCell ⟨R,4,none⟩ v4).setCell ⟨R,5,none⟩ v5).setCell ⟨R,6,none⟩ v6):=by
 have h0:(W.setCell ⟨R,0,none⟩ v0).heap[R]?=some (.cells #[v0,a1,a2,a3,a4,a5,a6] t (0,0)):=(heap_setCell_same _ _ 0 _ _ _ h).trans rfl;have h1:((W.setCell ⟨R,0,none⟩ v0).setCell ⟨R,1,none⟩ v1).heap[R]?=some (.cells #[v0,v1,a2,a3,a4,a5,a6] t (0,0)):=(heap_setCell_same _ _ 1 _ _ _ h0).trans rfl;have h2:(((W.setCell ⟨R,0,none⟩ v0).setCell ⟨R,1,none⟩ v1).setCell ⟨R,2,none⟩ v2).heap[R]?=some (.cells #[v0,v1,v2,a3,a4,a5,a6] t (0,0)):=(heap_setCell_same _ _ 2 _ _ _ h1).trans rfl;have h3:((((W.setCell ⟨R,0,none⟩ v0).setCell ⟨R,1,none⟩ v1).setCell ⟨R,2,none⟩ v2).setCell ⟨R,3,none⟩ v3).heap[R]?=some (.cells #[v0,v1,v2,v3,a4,a5,a6] t (0,0)):=(heap_setCell_same _ _ 3 _ _ _ h2).trans rfl;have h4:(((((W.setCell ⟨R,0,none⟩ v0).setCell ⟨R,1,none⟩ v1).setCell ⟨R,2,none⟩ v2).setCell ⟨R,3,none⟩ v3).setCell ⟨R,4,none⟩ v4).heap[R]?=some (.cells #[v0,v1,v2,v3,v4,a5,a6] t (0,0)):=(heap_setCell_same _ _ 4 _ _ _ h3).trans rfl;have h5:((((((W.setCell ⟨R,0,none⟩ v0).setCell ⟨R,1,none⟩ v1).setCell ⟨R,2,none⟩ v2).setCell ⟨R,3,none⟩ v3).setCell ⟨R,4,none⟩ v4).setCell ⟨R,5,none⟩ v5).heap[R]?=some (.cells #[v0,v1,v2,v3,v4,v5,a6] t (0,0)):=(heap_setCell_same _ _ 5 _ _ _ h4).trans rfl;have h6:(((((((W.setCell ⟨R,0,none⟩ v0).setCell ⟨R,1,none⟩ v1).setCell ⟨R,2,none⟩ v2).setCell ⟨R,3,none⟩ v3).setCell ⟨R,4,none⟩ v4).setCell ⟨R,5,none⟩ v5).setCell ⟨R,6,none⟩ v6).heap[R]?=some (.cells #[v0,v1,v2,v3,v4,v5,v6] t (0,0)):=(heap_setCell_same _ _ 6 _ _ _ h5).trans rfl;have k0:Keeps (fun i=>i=R) W (W.setCell ⟨R,0,none⟩ v0):=Keeps.setCell _ _ _ rfl;have k1:=k0.trans (Keeps.setCell (S:=fun j=>j=R∨W.heap.size≤j) (W.setCell ⟨R,0,none⟩ v0) ⟨R,1,none⟩ v1 (.inl rfl));have k2:=k1.trans (Keeps.setCell (S:=fun j=>j=R∨W.heap.size≤j) ((W.setCell ⟨R,0,none⟩ v0).setCell ⟨R,1,none⟩ v1) ⟨R,2,none⟩ v2 (.inl rfl));have k3:=k2.trans (Keeps.setCell (S:=fun j=>j=R∨W.heap.size≤j) (((W.setCell ⟨R,0,none⟩ v0).setCell ⟨R,1,none⟩ v1).setCell ⟨R,2,none⟩ v2) ⟨R,3,none⟩ v3 (.inl rfl));have k4:=k3.trans (Keeps.setCell (S:=fun j=>j=R∨W.heap.size≤j) ((((W.setCell ⟨R,0,none⟩ v0).setCell ⟨R,1,none⟩ v1).setCell ⟨R,2,none⟩ v2).setCell ⟨R,3,none⟩ v3) ⟨R,4,none⟩ v4 (.inl rfl));have k5:=k4.trans (Keeps.setCell (S:=fun j=>j=R∨W.heap.size≤j) (((((W.setCell ⟨R,0,none⟩ v0).setCell ⟨R,1,none⟩ v1).setCell ⟨R,2,none⟩ v2).setCell ⟨R,3,none⟩ v3).setCell ⟨R,4,none⟩ v4) ⟨R,5,none⟩ v5 (.inl rfl));have k6:=k5.trans (Keeps.setCell (S:=fun j=>j=R∨W.heap.size≤j) ((((((W.setCell ⟨R,0,none⟩ v0).setCell ⟨R,1,none⟩ v1).setCell ⟨R,2,none⟩ v2).setCell ⟨R,3,none⟩ v3).setCell ⟨R,4,none⟩ v4).setCell ⟨R,5,none⟩ v5) ⟨R,6,none⟩ v6 (.inl rfl));exact⟨h6,k6⟩
def pF(x:Tn):Tn:=⟨uq x.rate 3000000,x.grace⟩
structure PtAt(w2:World)(B b3:Nat)(E0 E2:Array Value)(l c d f p st:Int)(L:List Tn)(i:Nat)(v:Value)(wx:World):Prop where
 h0:wx.heap[B]?=some (.cells E0 29 (0,0))
 h2:wx.heap[B+1]?=some (.cells E2 29 (0,0))
 h3:wx.heap[b3]?=some (.cells #[.int .i64 l,v,.int .i64 c,.int .i64 d,.int .i64 f,.int .i64 p,.int .i64 st] 29 (0,0))
 row:wx.ownsRow 0 83 2 v i (((L.take i).map pF).flatMap Tn.cells)
 nw:∀g,v.ownBlock=some g→w2.heap.size≤g
 kp:Keeps (fun i=>i=b3) w2 wx
theorem PtAt.app{w2:World}{B b3:Nat}{E0 E2:Array Value}{l c d f p st:Int}{L:List Tn}{i:Nat}{v v9:Value}{wx w8 w9:World}{x:Tn}(h:PtAt w2 B b3 E0 E2 l c d f p st L i v wx)(hB:¬B=b3)(hB1:¬B+1=b3)(hx:L[i]?=some x)(hk8:Keeps (fun _=>False) wx w8)(hr:w9.ownsRow 0 83 2 v9 (i+1) (((L.take i).map pF).flatMap Tn.cells++(pF x).cells))
  (hk:Keeps (fun k=>v.ownBlock=some k) w8 w9) (hf:v9.ownBlock=v.ownBlock∨∃g,v9.ownBlock=some g∧w8.heap.size≤g):PtAt w2 B b3 E0 E2 l c d f p st L (i+1) v9 (w9.setCell ⟨b3,1,none⟩ v9):=by
 have hv:∀{b:Nat} {cs:Array Value},wx.heap[b]?=some (.cells cs 29 (0,0))→¬v.ownBlock=some b:=fun hb=>Aq h.row hb (by decide);have kb:Keeps (fun i=>i=b3) w9 (w9.setCell ⟨b3,1,none⟩ v9):=Keeps.setCell _ _ _ rfl;have c0:=Ad (Ad (Ad h.h0 hk8 (by simp)) hk (hv h.h0)) kb hB;have c2:=Ad (Ad (Ad h.h2 hk8 (by simp)) hk (hv h.h2)) kb hB1;have c3:=Ad (Ad h.h3 hk8 (by simp)) hk (hv h.h3);have hne:∀k,v9.ownBlock=some k→¬k=b3:=fun k hk' e=>by
  subst e;exact Aq hr c3 (by decide) hk'
 refine⟨c0,c2,(heap_setCell_same _ _ 1 _ _ _ c3).trans rfl, ?_, ?_, ?_⟩
 ·rw [take_snoc' hx,List.map_append,List.flatMap_append]
  simpa using kb.row hr hne
 ·intro g hg;rcases hf with e|⟨g',e1,e2⟩
  ·rw [e] at hg;exact h.nw g hg
  ·rw [e1] at hg;injection hg with hg;have:=h.kp.size;have:=hk8.size;omega
 ·exact((h.kp.trans (hk8.mono (by simp))).trans (hk.mono fun i _ e=> .inr (h.nw i e))).trans (kb.mono fun i _ e=> .inl e)
def pt8(b3 B:Nat)(v vs:Value)(g o:Nat)(r:Int)(gr:Bool)(W:World):Prop:=W.cell? ⟨b3,1,none⟩=some v∧W.cell? ⟨B,1,none⟩=some vs∧W.cell? ⟨g,o,none⟩=some (.int .i64 r)∧W.cell? ⟨g,o+1,none⟩=some (.bool gr)
theorem pt8.keep{b3 B:Nat}{v vs:Value}{g o:Nat}{r:Int}{gr:Bool}{W W':World}{S:Nat→Prop}(h:pt8 b3 B v vs g o r gr W)(hk:Keeps S W W')(h1:¬S b3)(h2:¬S B)(h3:¬S g):pt8 b3 B v vs g o r gr W':=
 ⟨(hk.cell (Ag h.1) h1).trans h.1,(hk.cell (Ag h.2.1) h2).trans h.2.1,(hk.cell (Ag h.2.2.1) h3).trans h.2.2.1,(hk.cell (Ag h.2.2.2) h3).trans h.2.2.2⟩
set_option maxHeartbeats 1600000
theorem playTerms_any(t:Tm)(adt:Option Addr)(ct n:Nat)(w:World)(hn:t.trs.length=n)(htr:Reads w 2 (.slice adt n ct) n (t.trs.flatMap Tn.cells))(htl:n≤9223372036854775807):
  Calls Tryz.prog 24 #[.agg #[.int .i64 t.limit,.slice adt n ct,.int .i64 t.cyc,.int .i64 t.due,.int .i64 t.minFixed,.int .i64 t.minPart,.int .i64 t.start]] w fun e w'=>∃v,e= .returned (.agg #[.int .i64 (playT t).limit,v,.int .i64 (playT t).cyc,.int .i64 (playT t).due,.int .i64 (playT t).minFixed,.int .i64 (playT t).minPart,.int .i64 (playT t).start])∧Reads w' 2 v (playT t).trs.length ((playT t).trs.flatMap Tn.cells)∧Keeps (fun _=>False) w w'∧(v= .slice adt n ct∨∀g,v.ownBlock=some g→w.heap.size≤g):=by
 obtain⟨i0,hi,hi0,hi1,hi2⟩:=info_parts info_tTr;obtain⟨q,hq⟩:∃q,uq t.start 400=q:=⟨_,rfl⟩;have hu0:∀x,0≤IntKind.u64.wrap x:=fun x=>by rw [IntKind.wrap_u64];omega
 have hqt:(IntKind.u64.wrap t.start).tmod 400=q:=by rw [Int.tmod_eq_emod_of_nonneg (hu0 _)];exact hq
 obtain⟨q0,q1⟩:=uq_bd t.start (m:=400) (by decide);rw [hq] at q0 q1;have hrt:=fun W (hW:Keeps (fun _=>False) w W)=>rtmRight_bigAt { t with start:=10957+q } (.slice adt n ct) W rfl (by rw [←hn] at *;exact htr.keeps hW (by simp)) (by rw [←hn] at htl;exact htl);obtain⟨E,hE⟩:∃E,({ t with start:=10957+q }:Tm).err=E:=⟨_,rfl⟩;rw [hE] at hrt;have hE2:=Tm.err_or { t with start:=10957+q };rw [hE] at hE2;dsimp only at hrt;obtain⟨Z,hZ⟩:∃Z,playT t=Z:=⟨_,rfl⟩;have hZ2:=hZ;unfold playT at hZ2;rw [hq,hE] at hZ2;rw [hZ];obtain⟨Hi,Hi0,Hi1,Hi2,Hq,Hrt,HE,HZ,Hu0⟩:=hid9 hi hi0 hi1 hi2 hq hrt hE hZ hu0;clear hu0 hZ hE hrt hq hi2 hi1 hi0 hi;obtain⟨Htr,Hn,HZ2⟩:=hid3 htr hn hZ2;clear hZ2 hn htr
 go_enter Tryz.func24,Tryz.ntmps24
 go_wp2_with fail
 refine(Hrt.out _ (by(repeat (first|exact Keeps.refl _ _|exact Keeps.alloc _ _|exact Keeps.drew _|exact Keeps.drewN _ _|refine Keeps.Ap ?_|refine Keeps.Al ?_|refine Keeps.Ae ?_)))).mono ?_;rintro e w1 ⟨rfl,hk1⟩;have hb0:=Ad (Au (heap_alloc_new w _) _) hk1 (by simp);have hb2:=box_new hk1 (by simp);rw [World.size_alloc] at hb2;have hk0:Keeps (fun _=>False) w w1:=Keeps.nt (by(repeat (first|exact Keeps.refl _ _|exact Keeps.alloc _ _|exact Keeps.drew _|exact Keeps.drewN _ _|refine Keeps.Ap ?_|refine Keeps.Al ?_|refine Keeps.Ae ?_))) hk1;clear hk1;rcases hE2 with rfl|rfl
 ·have hZ3:=HZ2.out;rw [if_pos rfl] at hZ3;have t0:=Aa (hb0) 0;have t1:=Aa (hb0) 1;have t2:=Aa (hb0) 2;have t3:=Aa (hb0) 3;have t4:=Aa (hb0) 4;have t5:=Aa (hb0) 5;have t6:=Aa (hb0) 6;have tl:=lt_of_block (hb0);have s0:=Aa (hb2) 0;have s1:=Aa (hb2) 1;have s2:=Aa (hb2) 2;have s3:=Aa (hb2) 3;have s4:=Aa (hb2) 4;have s5:=Aa (hb2) 5;have s6:=Aa (hb2) 6;have sl:=lt_of_block (hb2);have f0:=Ab (hb2) 0;have f1:=Ab (hb2) 1;have f2:=Ab (hb2) 2;have f3:=Ab (hb2) 3;have f4:=Ab (hb2) 4;have f5:=Ab (hb2) 5;have f6:=Ab (hb2) 6;obtain⟨hb3,hk3⟩:=store7 hb2 (.int .i64 t.limit) (.slice adt n ct) (.int .i64 t.cyc) (.int .i64 t.due) (.int .i64 t.minFixed) (.int .i64 t.minPart) (.int .i64 (10957+q));have hkz:=hk0.trans (hk3.mono fun i _ e=> .inr (by have e':i=w.heap.size+1:=e;omega));have hrz:∀W,Keeps (fun _=>False) w W→Reads W 2 (.slice adt n ct) Z.trs.length (Z.trs.flatMap Tn.cells):=fun W hW=>by rw [←hZ3];show Reads W 2 _ t.trs.length (t.trs.flatMap Tn.cells);rw [Hn.out];exact Htr.out.keeps hW (by simp)
  obtain⟨Hb0,Hb2,Hk0,HZ3,Hb3,Hk3,Hkz,Hrz⟩:=hid8 hb0 hb2 hk0 hZ3 hb3 hk3 hkz hrz;clear hrz hkz hk3 hb3 hZ3 hk0 hb2 hb0
  go_wp2
  clear s0 s1 s2 s3 s4 s5 s6;have r0:=Aa (Hb3.out) 0;have r1:=Aa (Hb3.out) 1;have r2:=Aa (Hb3.out) 2;have r3:=Aa (Hb3.out) 3;have r4:=Aa (Hb3.out) 4;have r5:=Aa (Hb3.out) 5;have r6:=Aa (Hb3.out) 6;exact bodyPost_ret (v:= .agg #[.int .i64 (t.limit),.slice adt n ct,.int .i64 (t.cyc),.int .i64 (t.due),.int .i64 (t.minFixed),.int .i64 (t.minPart),.int .i64 (10957+q)]) (by simp [results,Tryz.results24,go_sem,r0,r1,r2,r3,r4,r5,r6]) rfl ⟨.slice adt n ct,by rw [←HZ3.out],Hrz.out _ Hkz.out,Hkz.out,.inl rfl⟩
 ·have hZ3:=HZ2.out;rw [if_neg (by decide)] at hZ3;obtain⟨ul,hul⟩:∃z,uq t.limit 100000=z:=⟨_,rfl⟩;have tul:(IntKind.u64.wrap t.limit).tmod 100000=ul:=by rw [Int.tmod_eq_emod_of_nonneg (Hu0.out _)];exact hul
  have bul:=uq_bd t.limit (m:=100000) (by decide);rw [hul] at bul;obtain⟨bul0,bul1⟩:=bul;obtain⟨uc,huc⟩:∃z,uq t.cyc 28=z:=⟨_,rfl⟩;have tuc:(IntKind.u64.wrap t.cyc).tmod 28=uc:=by rw [Int.tmod_eq_emod_of_nonneg (Hu0.out _)];exact huc
  have buc:=uq_bd t.cyc (m:=28) (by decide);rw [huc] at buc;obtain⟨buc0,buc1⟩:=buc;obtain⟨ud,hud⟩:∃z,uq t.due 25=z:=⟨_,rfl⟩;have tud:(IntKind.u64.wrap t.due).tmod 25=ud:=by rw [Int.tmod_eq_emod_of_nonneg (Hu0.out _)];exact hud
  have bud:=uq_bd t.due (m:=25) (by decide);rw [hud] at bud;obtain⟨bud0,bud1⟩:=bud;obtain⟨uf,huf⟩:∃z,uq t.minFixed 100=z:=⟨_,rfl⟩;have tuf:(IntKind.u64.wrap t.minFixed).tmod 100=uf:=by rw [Int.tmod_eq_emod_of_nonneg (Hu0.out _)];exact huf
  have buf:=uq_bd t.minFixed (m:=100) (by decide);rw [huf] at buf;obtain⟨buf0,buf1⟩:=buf;obtain⟨up,hup⟩:∃z,uq t.minPart 101=z:=⟨_,rfl⟩;have tup:(IntKind.u64.wrap t.minPart).tmod 101=up:=by rw [Int.tmod_eq_emod_of_nonneg (Hu0.out _)];exact hup
  have bup:=uq_bd t.minPart (m:=101) (by decide);rw [hup] at bup;obtain⟨bup0,bup1⟩:=bup;rw [hul,huc,hud,huf,hup] at hZ3;obtain⟨B,hBe⟩:∃x,x=w.heap.size:=⟨_,rfl⟩;obtain⟨b3,hb3e⟩:∃x,x=w1.heap.size:=⟨_,rfl⟩;have hs0:B+1<b3:=by rw [hBe,hb3e];exact lt_of_block hb2
  rw [←hBe] at hb0 hb2;obtain⟨w2,hw2⟩:∃x,x=w1.alloc (.cells #[.int .i64 ul,.slice none 0 0,.int .i64 (1+uc),.int .i64 (1+ud),.int .i64 uf,.int .i64 up,.int .i64 (10957+q)] 29):=⟨_,rfl⟩;have hst:PtAt w2 B b3 #[.int .i64 t.limit,.slice adt n ct,.int .i64 t.cyc,.int .i64 t.due,.int .i64 t.minFixed,.int .i64 t.minPart,.int .i64 (10957+q)] #[.int .i64 0,.slice none 0 0,.int .i64 0,.int .i64 0,.int .i64 0,.int .i64 0,.int .i64 0] ul (1+uc) (1+ud) uf up (10957+q) t.trs 0 (.slice none 0 0) w2:=
   ⟨by rw [hw2];exact Au hb0 _,by rw [hw2];exact Au hb2 _,by rw [hw2,hb3e];exact heap_alloc_new w1 _,World.ownsRow_nil _ _ _ _,by simp [Value.ownBlock],Keeps.refl _ _⟩
  have hk2:Keeps (fun _=>False) w w2:=by rw [hw2];exact hk0.nt (Keeps.alloc _ _)
  have hb3w:w.heap.size≤b3:=by rw [←hBe];omega
  have hb3s:b3<w2.heap.size:=lt_of_block hst.h3;rw [←hBe];have t0:=Aa (hb0) 0;have t1:=Aa (hb0) 1;have t2:=Aa (hb0) 2;have t3:=Aa (hb0) 3;have t4:=Aa (hb0) 4;have t5:=Aa (hb0) 5;have t6:=Aa (hb0) 6;have tl:=lt_of_block (hb0);obtain⟨Hb0,Hb2,Hk0,HZ3,Hul,Huc,Hud,Huf,Hup⟩:=hid9 hb0 hb2 hk0 hZ3 hul huc hud huf hup;clear hup huf hud huc hul hZ3 hk0 hb2 hb0;obtain⟨Hst,Hk2,HBe,Hs0,Hb3w,Hb3s⟩:=hid6 hst hk2 hBe hs0 hb3w hb3s;clear hb3s hb3w hs0 hBe hk2 hst
  go_wp2
  rw [←hw2];clear hw2 t0 t1 t2 t3 t4 t5 t6 tl;rw [←hb3e];clear hb3e
  go_loopw [4] (fun x wx=>∃(i:Nat) (v:Value),x= .int .i64 (i:Nat)∧i≤n∧i≤8∧PtAt w2 B b3 #[.int .i64 t.limit,.slice adt n ct,.int .i64 t.cyc,.int .i64 t.due,.int .i64 t.minFixed,.int .i64 t.minPart,.int .i64 (10957+q)] #[.int .i64 0,.slice none 0 0,.int .i64 0,.int .i64 0,.int .i64 0,.int .i64 0,.int .i64 0] ul (1+uc) (1+ud) uf up (10957+q) t.trs i v wx) (fun x _=>8-(intOf x).toNat)
  case atStart=>exact⟨0,_,rfl,Nat.zero_le _,Nat.zero_le _,Hst.out⟩
  case round=>
   obtain⟨i,v,rfl,hin,hi8,hat⟩:=hrel;obtain⟨wq,hwq⟩:∃x,x=wr:=⟨_,rfl⟩;subst hwq;obtain⟨av,cv,rfl⟩:∃a c,v= .slice a i c:=by obtain⟨a,c,h,_⟩:=Aj hat.row;exact⟨a,c,h⟩
   have hkq:Keeps (fun _=>False) w wq:=Hk2.out.trans (hat.kp.mono fun i _ e=> .inr (by have e':i=b3:=e;have:=Hb3w.out;omega));by_cases hlt:i<n∧i<8
   ·have hltI:(i:Int)<(n:Int):=by omega
    have hlt8:(i:Int)<8:=by omega
    obtain⟨x,hx⟩:=Av (L:=t.trs) (k:=i) (by rw [Hn.out];exact hlt.1);obtain⟨g,o,c',he,hc⟩:=(Htr.out.keeps hkq (by simp)).elem Tn.Am hx (by decide);simp only [Value.slice.injEq,true_and] at he;obtain⟨rfl,rfl⟩:=he;obtain⟨xr,xg⟩:=x;have x0:wq.cell? ⟨g,o+i*2,none⟩=some (.int .i64 xr):=hc 0 (by decide);have x1:wq.cell? ⟨g,o+i*2+1,none⟩=some (.bool xg):=hc 1 (by decide);clear hc;obtain⟨ur,hur⟩:∃z,uq xr 3000000=z:=⟨_,rfl⟩;have tur:(IntKind.u64.wrap xr).tmod 3000000=ur:=by rw [Int.tmod_eq_emod_of_nonneg (Hu0.out _)];exact hur
    have bur:=uq_bd xr (m:=3000000) (by decide);rw [hur] at bur;obtain⟨bur0,bur1⟩:=bur;have hwr:IntKind.i64.wrap ur=ur:=by rw [IntKind.wrap_i64];omega
    have hS:pt8 b3 B (.slice av i cv) (.slice (some ⟨g,o,none⟩) n ct) g (o+i*2) xr xg wq.drew:=(show pt8 b3 B (.slice av i cv) (.slice (some ⟨g,o,none⟩) n ct) g (o+i*2) xr xg wq from⟨Aa hat.h3 1,Aa hat.h0 1,x0,x1⟩).keep (S:=fun _=>False) (Keeps.drew _) (by simp) (by simp) (by simp);have hne3:¬(Value.slice av i cv).ownBlock=some b3:=Aq hat.row hat.h3 (by decide);have hneB:¬(Value.slice av i cv).ownBlock=some B:=Aq hat.row hat.h0 (by decide);have hneg:¬(Value.slice av i cv).ownBlock=some g:=fun e=>by
     have h1:=hat.nw g e;have h2:=Htr.out.lt (fun e=>by rw [List.flatMap_eq_nil_iff] at e;have:=e _ (List.mem_of_getElem? hx);simp [Tn.cells] at this);obtain⟨g',e1,e2⟩:=h2;simp only [Value.ownBlock,Option.some.injEq] at e1;have:=Hk2.out.size;omega
    have hbB:=lt_of_block hat.h0;have hb3q:=lt_of_block hat.h3;have hgl:=Ag x0;have c01:=Aa hat.h0 1;obtain⟨Hat,Hkq,Hx,Hur,HS,Hlt⟩:=hid6 hat hkq hx hur hS hlt;clear hlt hS hur hx hkq hat
    go_wp2_with fail
    clear x0 x1 c01;refine Cy (pt8 b3 B (.slice av i cv) (.slice (some ⟨g,o,none⟩) n ct) g (o+i*2) xr xg) 21 (.take 0 (.take 1 (.take 2 (.take 3 (.take 4 (.take 5 (.take 6 (.take 7 (.take 8 (.take 9 (.take 10 (.take 11 (.take 12 (.take 13 (.take 14 (.take 15 (.take 16 (.take 17 (.move 18 (.move 19 (.take 20 (.move 21 .done)))))))))))))))))))))) (by kernel_rfl) (by kernel_rfl) ?_ ?_
    ·exact HS.out
    intro w8 hs8 hk8
    repeat ((first|refine Ai rfl (by rfl) ?_|refine Af rfl (by rfl) ?_|(refine Ah (v:= ?_) rfl (by rfl) ?_ ?_;rotate_left;(· intro w' hSw;unfold pt8 at hSw;go_simp;(try with_reducible rfl));rotate_right));try simp only [aps])
    refine Ak rfl (fun K hK=> ?_)
    go_simp
    refine hK.out _ _ (by exact hs8.keep (S:=fun _=>False) (Keeps.alloc _ _) (by simp) (by simp) (by simp)) ?_;clear hK K
    try simp only [aps]
    have hk8a:=hk8.nt (Keeps.alloc w8 (.cells #[.int .i64 ur,.bool xg] 83));have hrow8:=Hat.out.row.of_keeps hk8a;refine Ak rfl (fun K hK=> ?_);refine Bt rfl (.tmp 58) (.tmp 75) 27 rfl 0 83 i0 _ 2 16 Tryz.underlying27 Hi.out Hi0.out Hi1.out Hi2.out rfl (by decide) (.slice av i cv) i _ rfl hrow8 _ 1 _ rfl (Reads.litAt _ _ _ 2 1 _ (by first|rfl|simp) rfl) (by simp [Value.oneCell']) (by unfold maxLen;omega) (by omega) (Nat.zero_le _) ?_;intro v9 w9 hown9 hk9 hf9;obtain⟨a9,c9,rfl,_,_⟩:=Aj hown9;have happ:=Hat.out.app (by have:=Hs0.out;omega) (by have:=Hs0.out;omega) Hx.out hk8a (by unfold pF;rw [Hur.out];exact hown9) hk9 hf9;have hb39:=Ad (Ad Hat.out.h3 hk8a (by simp)) hk9 hne3;have o1:=Aa hb39 1;have f1:=Ab hb39 1;have l1:=lt_of_block hb39;refine hK.out _ _ (by exact(hs8.keep (S:=fun _=>False) (Keeps.alloc _ _) (by simp) (by simp) (by simp)).keep hk9 hne3 hneB hneg) ?_;clear hK K
    try simp only [aps]
    clear hs8;obtain⟨Hk8a,Hrow8,Happ,Hb39,Hown9,Hk9,Hk8⟩:=hid7 hk8a hrow8 happ hb39 hown9 hk9 hk8;clear hk8 hk9 hown9 hb39 happ hrow8 hk8a
    repeat ((first|refine Ai rfl (by rfl) ?_|refine Af rfl (by rfl) ?_|(refine Ah (v:= ?_) rfl (by rfl) ?_ ?_;rotate_left;(· intro w' hSw;unfold pt8 at hSw;go_simp;(try with_reducible rfl));rotate_right));try simp only [aps])
    refine Cr rfl (fun K hK=> ?_)
    go_simp
    refine hK.out _ _ ?_;clear hK K
    try simp only [aps]
    refine Aw ?_;clear o1 f1 l1
    go_wp2_with fail
    go_roundw
    case rel=>exact⟨i+1,_,by go_num,by have:=Hlt.out;omega,by have:=Hlt.out;omega,Happ.out⟩
    case measure=>simp [intOf];omega
   ·have hmap:(t.trs.take i).map pF=(t.trs.take 8).map pF:=by
     by_cases h8:i=8
     ·rw [h8]
     ·have:n=i:=by omega
      rw [List.take_of_length_le (by rw [Hn.out];omega),List.take_of_length_le (by rw [Hn.out];omega)]
    have hlen:((t.trs.take 8).map pF).length=i:=by rw [←hmap,List.length_map,List.length_take,Hn.out];omega
    have hpl:playTrs t.trs=if(t.trs.take 8).map pF= [] then [⟨500000,false⟩] else(t.trs.take 8).map pF:=rfl;have hrow:=hat.row;rw [hmap] at hrow;have c01:=Aa hat.h0 1;have hbB:=lt_of_block hat.h0;by_cases h0:i=0
    ·subst h0;have hn0:¬((0:Nat):Int)<(n:Int):=by omega
     rw [if_pos (List.eq_nil_of_length_eq_zero hlen)] at hpl;have hZ4:=HZ3.out;rw [hpl] at hZ4;have o1:=Aa hat.h3 1;have f1:=Ab hat.h3 1;have l1:=lt_of_block hat.h3;obtain⟨W4,hW4⟩:∃x,x=(wq.setCell ⟨b3,1,none⟩ (.slice (some ⟨wq.heap.size,0,none⟩) 1 1)).alloc (.cells #[.int .i64 500000,.bool false] 83):=⟨_,rfl⟩;have hk4:Keeps (fun i=>i=b3) wq W4:=by rw [hW4];exact(Keeps.setCell (S:=fun i=>i=b3) wq _ _ rfl).trans (Keeps.alloc _ _)
     have hb34:W4.heap[b3]?=some (.cells #[.int .i64 ul,.slice (some ⟨wq.heap.size,0,none⟩) 1 1,.int .i64 (1+uc),.int .i64 (1+ud),.int .i64 uf,.int .i64 up,.int .i64 (10957+q)] 29 (0,0)):=by rw [hW4];exact Au ((heap_setCell_same _ _ 1 _ _ _ hat.h3).trans rfl) _
     have hb24:=Ad hat.h2 hk4 (by have:=Hs0.out;omega);have hrd4:Reads W4 2 (.slice (some ⟨wq.heap.size,0,none⟩) 1 1) 1 ([(⟨500000,false⟩:Tn)].flatMap Tn.cells):=by
      rw [hW4];exact Reads.litAt (n:=1) _ #[.int .i64 500000,.bool false] _ 2 _ (by simp) rfl
     have hkw4:Keeps (fun _=>False) w W4:=hkq.trans (hk4.mono fun i _ e=> .inr (by have e':i=b3:=e;have:=Hb3w.out;omega));obtain⟨Hat,Hkq,Hmap,Hlen,Hpl,Hrow,Hlt,HZ4,Hk4⟩:=hid9 hat hkq hmap hlen hpl hrow hlt hZ4 hk4;clear hk4 hZ4 hlt hrow hpl hlen hmap hkq hat;obtain⟨Hb34,Hb24,Hrd4,Hkw4⟩:=hid4 hb34 hb24 hrd4 hkw4;clear hkw4 hrd4 hb24 hb34
     go_upto_region 11 with fail
     rw [←hW4];clear hW4 o1 f1 l1;have t0:=Aa (Hb34.out) 0;have t1:=Aa (Hb34.out) 1;have t2:=Aa (Hb34.out) 2;have t3:=Aa (Hb34.out) 3;have t4:=Aa (Hb34.out) 4;have t5:=Aa (Hb34.out) 5;have t6:=Aa (Hb34.out) 6;have tl:=lt_of_block (Hb34.out);have s0:=Aa (Hb24.out) 0;have s1:=Aa (Hb24.out) 1;have s2:=Aa (Hb24.out) 2;have s3:=Aa (Hb24.out) 3;have s4:=Aa (Hb24.out) 4;have s5:=Aa (Hb24.out) 5;have s6:=Aa (Hb24.out) 6;have sl:=lt_of_block (Hb24.out);have f0:=Ab (Hb24.out) 0;have f1:=Ab (Hb24.out) 1;have f2:=Ab (Hb24.out) 2;have f3:=Ab (Hb24.out) 3;have f4:=Ab (Hb24.out) 4;have f5:=Ab (Hb24.out) 5;have f6:=Ab (Hb24.out) 6;obtain⟨hb5,hk5⟩:=store7 (Hb24.out) (.int .i64 ul) (.slice (some ⟨wq.heap.size,0,none⟩) 1 1) (.int .i64 (1+uc)) (.int .i64 (1+ud)) (.int .i64 uf) (.int .i64 up) (.int .i64 (10957+q));have hkz:=(Hkw4.out).trans (hk5.mono fun i _ e=> .inr (by have e':i=B+1:=e;have:=HBe.out;omega));have hrz:Reads _ 2 (.slice (some ⟨wq.heap.size,0,none⟩) 1 1) Z.trs.length (Z.trs.flatMap Tn.cells):=(by rw [←HZ4.out];exact Hrd4.out.keeps hk5 (fun g hg e=>by simp only [Value.ownBlock,Option.some.injEq] at hg;have e':g=B+1:=e;have:=lt_of_block Hat.out.h2;omega));obtain⟨Hb5,Hk5,Hkz,Hrz⟩:=hid4 hb5 hk5 hkz hrz;clear hrz hkz hk5 hb5
     go_wp2
     clear s0 s1 s2 s3 s4 s5 s6;have r0:=Aa (Hb5.out) 0;have r1:=Aa (Hb5.out) 1;have r2:=Aa (Hb5.out) 2;have r3:=Aa (Hb5.out) 3;have r4:=Aa (Hb5.out) 4;have r5:=Aa (Hb5.out) 5;have r6:=Aa (Hb5.out) 6;exact bodyPost_ret (v:= .agg #[.int .i64 ul,.slice (some ⟨wq.heap.size,0,none⟩) 1 1,.int .i64 (1+uc),.int .i64 (1+ud),.int .i64 uf,.int .i64 up,.int .i64 (10957+q)]) (by simp [results,Tryz.results24,go_sem,r0,r1,r2,r3,r4,r5,r6]) rfl ⟨.slice (some ⟨wq.heap.size,0,none⟩) 1 1,by rw [←HZ4.out],Hrz.out,Hkz.out,.inr (fun g hg=>by simp only [Value.ownBlock,Option.some.injEq] at hg;have:=Hkq.out.size;omega)⟩
    ·have hi0:((i:Int)==0)=false:=beq_eq_false_iff_ne.2 (by omega);rw [if_neg (fun e=>by rw [e] at hlen;simp at hlen;omega)] at hpl;have hZ4:=HZ3.out;rw [hpl] at hZ4;have hrd4:Reads wq 2 (.slice av i cv) ((t.trs.take 8).map pF).length (((t.trs.take 8).map pF).flatMap Tn.cells):=by rw [hlen];exact Reads.Bh hrow
     have hnb:¬(Value.slice av i cv).ownBlock=some (B+1):=Aq hat.row hat.h2 (by decide);by_cases h8:i<n
     ·have hltI:(i:Int)<(n:Int):=by omega
      have hlt8:¬(i:Int)<8:=by omega
      exact jY3
     ·have hltI:¬(i:Int)<(n:Int):=by omega
      exact jY3
theorem find_far{cd:Int}(hc:1≤cd∧cd≤28){day:Int}(hd:day≤100000):∀(f:Nat) (fr:Int), -135140≤fr→fr≤day→dD fr=cd→day<fr+28*f→(findW cd day f fr).2=true:=by
 intro f
 induction f with
 |zero=>intro fr h0 h1 h2 h3;omega
 |succ f ih=>
  intro fr h0 h1 h2 h3;have hge:=lastF_ge (fr:=fr) (cd:=cd) h0 (by omega) hc.1 hc.2;have hF:fr+27≤lastF fr cd:=by
   have hi:=date_is h0 (by omega:fr≤2932896);unfold lastF;rw [h2,if_pos (by omega)];have:28≤mlen (dY fr) (dM fr):=by
    have m0:=hi.m0;have m1:=hi.m1;unfold mlen
    split
    ·split<;>omega
    ·split
     ·omega
     ·rw [if_pos ⟨m0,m1⟩];omega
   omega
  have he:lastE fr cd=0:=by
   exact jY16
  by_cases hl:lastF fr cd<day
  ·have hy:=lastF_yes (fr:=fr) (cd:=cd) h0 (by omega) hc.1 hc.2 (by omega);have:=ih (lastF fr cd+1) (by omega) (by omega) hy (by omega);rw [findW_go he ⟨hl,by omega⟩];exact this
  ·rw [findW_stop he (by omega)];simp;omega
theorem ofE_far{st cd day:Int}(hc:1≤cd∧cd≤28)(h0: -135140≤st)(h1:st≤day)(h2:day≤100000)(h3:day<st+8000):ofE st cd day=0∧(findW cd day 300 st).2=true:=by
 have hge:=lastF_ge (fr:=st) (cd:=cd) h0 (by omega) hc.1 hc.2;have he:lastE st cd=0:=by
  exact jY16
 have hf:(findW cd day 300 st).2=true:=by
  by_cases hl:lastF st cd<day
  ·have hy:=lastF_yes (fr:=st) (cd:=cd) h0 (by omega) hc.1 hc.2 (by omega);rw [findW_go he ⟨hl,by omega⟩];exact find_far hc h2 299 (lastF st cd+1) (by omega) (by omega) hy (by omega)
  ·rw [findW_stop he (by omega)];simp;omega
 refine⟨?_,hf⟩;unfold ofE;rw [if_pos he,if_pos hf]
theorem repErr_play{t:Tm}{L:List Ev}{td:Int}(hz:t.err=0)(hL:∀x∈L,evErr t x=0∧x.day≤td)(hl:L.length≤2000)(h0:t.start≤td)(h1:td≤100000)(h2:td<t.start+8000):repErr t L td=0:=by
 obtain⟨_,_,hc,_,_,_,hst⟩:=tm_nums hz;obtain⟨ho,_⟩:=ofE_far (st:=t.start) (day:=td) hc (by omega) h0 h1 h2;have hall:L.any (lateQ td)=false:=by
  rcases hb:L.any (lateQ td) with _|_
  ·rfl
  ·obtain⟨x,hx,hq⟩:=List.any_eq_true.1 hb;have:=(hL x hx).2;simp [lateQ] at hq;omega
 unfold repErr;rw [if_pos hz,if_pos (evsErr_all (fun x hx=>(hL x hx).1)),if_neg (by omega),if_neg (by omega),if_neg (by rw [ho];simp),hall];rfl
set_option maxHeartbeats 400000
theorem plainEv1_same(a0:Int)(a1:Int)(a2:Int)(a3:Int)(a4:Int)(w:World):Calls Tryz.prog 56 #[.agg #[.int .i64 a0,.int .i64 a1,.int .i64 a2,.int .i64 a3,.int .i64 a4],.agg #[.int .i64 a0,.int .i64 a1,.int .i64 a2,.int .i64 a3,.int .i64 a4]] w
  fun e w'=>e= .returned (.bool true)∧Keeps (fun _=>False) w w':=by
 go_enter Tryz.func56,Tryz.ntmps56
 exact jY10
theorem sameEv_same(L:List Ev)(v1 v2:Value)(w:World)(h1:Reads w 5 v1 L.length (L.flatMap Ev.cells))(h2:Reads w 5 v2 L.length (L.flatMap Ev.cells))(hl:L.length≤1000000000000):
  Calls Tryz.prog 55 #[v1,v2,.func (.func 56) #[] #[]] w fun e w'=>e= .returned (.bool true)∧Keeps (fun _=>False) w w':=by
 have g1:=h1;have g2:=h2;obtain⟨ad1,c1,rfl,_,_⟩:=g1;obtain⟨ad2,c2,rfl,_,_⟩:=g2;obtain⟨H1,H2⟩:=hid2 h1 h2;clear h2 h1
 go_enter Tryz.func55,Tryz.ntmps55
 go_wp2
 go_loopw [7] (fun i wr=>∃k:Nat,k≤L.length∧i= .int .i64 k∧Keeps (fun _=>False) w wr) (fun i _=>L.length-(intOf i).toNat)
 case atStart=>exact⟨0,Nat.zero_le _,rfl,Keeps.refl _ _⟩
 case round=>
  obtain⟨k,hk,rfl,hkp⟩:=hrel;have Hkp:=Lib.hid hkp;clear hkp;by_cases hlt:k<L.length
  ·obtain⟨x,hx⟩:∃x,L[k]?=some x:=⟨L[k],List.getElem?_eq_getElem hlt⟩;obtain⟨g,o,c,he,hc⟩:=(H1.out.keeps Hkp.out (by simp)).elem Ev.Am hx (by decide);obtain⟨g',o',c',he',hc'⟩:=(H2.out.keeps Hkp.out (by simp)).elem Ev.Am hx (by decide);simp only [Value.slice.injEq,true_and] at he he';obtain⟨rfl,rfl⟩:=he;obtain⟨rfl,rfl⟩:=he';obtain⟨e0,e1,e2,e3,e4⟩:=x;have x0:wr.cell? ⟨g,o+k*5,none⟩=some (.int .i64 e0):=hc 0 (by decide);have x1:wr.cell? ⟨g,o+k*5+1,none⟩=some (.int .i64 e1):=hc 1 (by decide);have x2:wr.cell? ⟨g,o+k*5+2,none⟩=some (.int .i64 e2):=hc 2 (by decide);have x3:wr.cell? ⟨g,o+k*5+3,none⟩=some (.int .i64 e3):=hc 3 (by decide);have x4:wr.cell? ⟨g,o+k*5+4,none⟩=some (.int .i64 e4):=hc 4 (by decide);have y0:wr.cell? ⟨g',o'+k*5,none⟩=some (.int .i64 e0):=hc' 0 (by decide);have y1:wr.cell? ⟨g',o'+k*5+1,none⟩=some (.int .i64 e1):=hc' 1 (by decide);have y2:wr.cell? ⟨g',o'+k*5+2,none⟩=some (.int .i64 e2):=hc' 2 (by decide);have y3:wr.cell? ⟨g',o'+k*5+3,none⟩=some (.int .i64 e3):=hc' 3 (by decide);have y4:wr.cell? ⟨g',o'+k*5+4,none⟩=some (.int .i64 e4):=hc' 4 (by decide);clear hc hc';have Hx:=Lib.hid hx;clear hx
   go_wp2
   go_still_tail 9,(by kernel_rfl)
   go_wp2_with (go_at_call 56;refine(plainEv1_same _ _ _ _ _ _).mono ?_;rintro e w' ⟨rfl,hk2⟩;have Hk2:=Lib.hid hk2;clear hk2)
   exact jY6
  ·exact jY19
theorem plainEv_same(L:List Ev)(v1 v2:Value)(w:World)(h1:Reads w 5 v1 L.length (L.flatMap Ev.cells))(h2:Reads w 5 v2 L.length (L.flatMap Ev.cells))(hl:L.length≤1000000000000):
  Calls Tryz.prog 30 #[v1,v2] w fun e w'=>e= .returned (.bool true)∧Keeps (fun _=>False) w w':=by
 obtain⟨H1,H2⟩:=hid2 h1 h2;clear h2 h1
 go_enter Tryz.func30,Tryz.ntmps30
 go_wp2_with (go_at_call 55;refine(sameEv_same L _ _ _ H1.out H2.out hl).mono ?_;rintro e w' ⟨rfl,hk2⟩;have Hk2:=Lib.hid hk2;clear hk2)
 go_ret;exact⟨rfl,Hk2.out⟩
theorem plainAdj1_same(a0:Int)(a1:Int)(a2:Int)(a3:Int)(a4:Int)(a5:Int)(a6:Int)(a7:Int)(a8:Int)(w:World):Calls Tryz.prog 52 #[.agg #[.int .i64 a0,.int .i64 a1,.int .i64 a2,.int .i64 a3,.int .i64 a4,.int .i64 a5,.int .i64 a6,.int .i64 a7,.int .i64 a8],.agg #[.int .i64 a0,.int .i64 a1,.int .i64 a2,.int .i64 a3,.int .i64 a4,.int .i64 a5,.int .i64 a6,.int .i64 a7,.int .i64 a8]] w
  fun e w'=>e= .returned (.bool true)∧Keeps (fun _=>False) w w':=by
 go_enter Tryz.func52,Tryz.ntmps52
 exact jY10
theorem sameAdj_same(L:List Adj)(v1 v2:Value)(w:World)(h1:Reads w 9 v1 L.length (L.flatMap Adj.cells))(h2:Reads w 9 v2 L.length (L.flatMap Adj.cells))(hl:L.length≤1000000000000):
  Calls Tryz.prog 51 #[v1,v2,.func (.func 52) #[] #[]] w fun e w'=>e= .returned (.bool true)∧Keeps (fun _=>False) w w':=by
 have g1:=h1;have g2:=h2;obtain⟨ad1,c1,rfl,_,_⟩:=g1;obtain⟨ad2,c2,rfl,_,_⟩:=g2;obtain⟨H1,H2⟩:=hid2 h1 h2;clear h2 h1
 go_enter Tryz.func51,Tryz.ntmps51
 go_wp2
 go_loopw [7] (fun i wr=>∃k:Nat,k≤L.length∧i= .int .i64 k∧Keeps (fun _=>False) w wr) (fun i _=>L.length-(intOf i).toNat)
 case atStart=>exact⟨0,Nat.zero_le _,rfl,Keeps.refl _ _⟩
 case round=>
  obtain⟨k,hk,rfl,hkp⟩:=hrel;have Hkp:=Lib.hid hkp;clear hkp;by_cases hlt:k<L.length
  ·obtain⟨x,hx⟩:∃x,L[k]?=some x:=⟨L[k],List.getElem?_eq_getElem hlt⟩;obtain⟨g,o,c,he,hc⟩:=(H1.out.keeps Hkp.out (by simp)).elem Adj.Am hx (by decide);obtain⟨g',o',c',he',hc'⟩:=(H2.out.keeps Hkp.out (by simp)).elem Adj.Am hx (by decide);simp only [Value.slice.injEq,true_and] at he he';obtain⟨rfl,rfl⟩:=he;obtain⟨rfl,rfl⟩:=he';obtain⟨e0,e1,e2,e3,e4,e5,e6,e7,e8⟩:=x;have x0:wr.cell? ⟨g,o+k*9,none⟩=some (.int .i64 e0):=hc 0 (by decide);have x1:wr.cell? ⟨g,o+k*9+1,none⟩=some (.int .i64 e1):=hc 1 (by decide);have x2:wr.cell? ⟨g,o+k*9+2,none⟩=some (.int .i64 e2):=hc 2 (by decide);have x3:wr.cell? ⟨g,o+k*9+3,none⟩=some (.int .i64 e3):=hc 3 (by decide);have x4:wr.cell? ⟨g,o+k*9+4,none⟩=some (.int .i64 e4):=hc 4 (by decide);have x5:wr.cell? ⟨g,o+k*9+5,none⟩=some (.int .i64 e5):=hc 5 (by decide);have x6:wr.cell? ⟨g,o+k*9+6,none⟩=some (.int .i64 e6):=hc 6 (by decide);have x7:wr.cell? ⟨g,o+k*9+7,none⟩=some (.int .i64 e7):=hc 7 (by decide);have x8:wr.cell? ⟨g,o+k*9+8,none⟩=some (.int .i64 e8):=hc 8 (by decide);have y0:wr.cell? ⟨g',o'+k*9,none⟩=some (.int .i64 e0):=hc' 0 (by decide);have y1:wr.cell? ⟨g',o'+k*9+1,none⟩=some (.int .i64 e1):=hc' 1 (by decide);have y2:wr.cell? ⟨g',o'+k*9+2,none⟩=some (.int .i64 e2):=hc' 2 (by decide);have y3:wr.cell? ⟨g',o'+k*9+3,none⟩=some (.int .i64 e3):=hc' 3 (by decide);have y4:wr.cell? ⟨g',o'+k*9+4,none⟩=some (.int .i64 e4):=hc' 4 (by decide);have y5:wr.cell? ⟨g',o'+k*9+5,none⟩=some (.int .i64 e5):=hc' 5 (by decide);have y6:wr.cell? ⟨g',o'+k*9+6,none⟩=some (.int .i64 e6):=hc' 6 (by decide);have y7:wr.cell? ⟨g',o'+k*9+7,none⟩=some (.int .i64 e7):=hc' 7 (by decide);have y8:wr.cell? ⟨g',o'+k*9+8,none⟩=some (.int .i64 e8):=hc' 8 (by decide);clear hc hc';have Hx:=Lib.hid hx;clear hx
   go_wp2
   go_still_tail 9,(by kernel_rfl)
   go_wp2_with (go_at_call 52;refine(plainAdj1_same _ _ _ _ _ _ _ _ _ _).mono ?_;rintro e w' ⟨rfl,hk2⟩;have Hk2:=Lib.hid hk2;clear hk2)
   exact jY6
  ·exact jY19
theorem plainAdj_same(L:List Adj)(v1 v2:Value)(w:World)(h1:Reads w 9 v1 L.length (L.flatMap Adj.cells))(h2:Reads w 9 v2 L.length (L.flatMap Adj.cells))(hl:L.length≤1000000000000):
  Calls Tryz.prog 27 #[v1,v2] w fun e w'=>e= .returned (.bool true)∧Keeps (fun _=>False) w w':=by
 obtain⟨H1,H2⟩:=hid2 h1 h2;clear h2 h1
 go_enter Tryz.func27,Tryz.ntmps27
 go_wp2_with (go_at_call 51;refine(sameAdj_same L _ _ _ H1.out H2.out hl).mono ?_;rintro e w' ⟨rfl,hk2⟩;have Hk2:=Lib.hid hk2;clear hk2)
 go_ret;exact⟨rfl,Hk2.out⟩
theorem live_new{w0 W:World}{O:Nat→Prop}{t:Tm}{v:Value}(hk:Keeps (fun _=>False) w0 W)(hO:∀b,O b→b<W.heap.size)(hr:Reads W 2 v t.trs.length (t.trs.flatMap Tn.cells))(hre:repErr t [] t.start=0):
  Calls Tryz.prog 12 #[.agg #[.int .i64 t.limit,v,.int .i64 t.cyc,.int .i64 t.due,.int .i64 t.minFixed,.int .i64 t.minPart,.int .i64 t.start]] W (NewLive w0 O W t):=by
 refine(accNew_ok t v W hr hre).mono ?_;rintro e w' ⟨B,x,rfl,hA,hk',hf⟩;have:=hk.size;exact⟨B,rfl,⟨⟨x,hA,fun b hb=>⟨by have:=hf b (.inl hb);omega,fun o=>by have:=hf b (.inl hb);have:=hO b o;omega⟩⟩,fun b hb=>Nat.lt_of_lt_of_le (hO b hb) hk'.size,hk.nt hk'⟩,hk'⟩
theorem live_ev{w0 W:World}{O:Nat→Prop}{B:Nat}{a:Ac}(h:Live w0 O W B a):Calls Tryz.prog 28 #[(.pointer (some ⟨B,0,none⟩))] W (GivesEv W a.L):=by obtain⟨x,hx⟩:=h.is;exact accEvents_any B x a W hx.1
theorem live_iss{w0 W:World}{O:Nat→Prop}{B:Nat}{a:Ac}(h:Live w0 O W B a):Calls Tryz.prog 21 #[(.pointer (some ⟨B,0,none⟩))] W (OwnPost W a.iss):=by obtain⟨x,hx⟩:=h.is;exact accIssued_any B x a W hx.1
theorem live_adj{w0 W:World}{O:Nat→Prop}{B:Nat}{a:Ac}(h:Live w0 O W B a)(hs:a.seq≤100000):Calls Tryz.prog 26 #[(.pointer (some ⟨B,0,none⟩))] W (AdjPost W a.adj):=by obtain⟨x,hx⟩:=h.is;exact accAdjusts_any B x a W hx.1 hs
theorem live_ok{w0 W:World}{O:Nat→Prop}{B:Nat}{a:Ac}(h:Live w0 O W B a):AcOk a:=by obtain⟨x,hx⟩:=h.is;exact hx.1.ok
theorem Reads.keepF{S:Nat→Prop}{w w':World}{size:Nat}{x:Value}{m:Nat}{news:List Value}(h:Reads w size x m news)(hk:Keeps S w w')(hS:∀k,x.ownBlock=some k→k<w.heap.size→¬S k):Reads w' size x m news:=by
 obtain⟨ad,c,rfl,h1,h2,h3,h4⟩:=h;refine⟨ad,c,rfl,h1,h2,h3,fun j u hj=> ?_⟩;obtain⟨g,o,rfl,ha⟩:=h4 j u hj;exact⟨g,o,rfl,by rw [hk.cell (Ag ha) (hS g rfl (Ag ha))];exact ha⟩
theorem keeps_front{S:Nat→Prop}{a b c:World}(h:Keeps (fun _=>False) a b)(k:Keeps S b c):Keeps S a c:=(h.mono (fun _ _ e=>e.elim)).trans (k.mono fun _ _ e=> .inl e)
theorem keeps_back{S:Nat→Prop}{a b c:World}(h:Keeps S a b)(k:Keeps (fun _=>False) b c):Keeps S a c:=h.trans (k.mono fun _ _ e=>e.elim)
def YR(lo:Nat)(w:World)(size:Nat)(x:Value)(m:Nat)(news:List Value):Prop:=Reads w size x m news∧∀k,x.ownBlock=some k→lo≤k
theorem YR.keep{lo:Nat}{S:Nat→Prop}{w w':World}{size:Nat}{x:Value}{m:Nat}{news:List Value}(h:YR lo w size x m news)(hk:Keeps S w w')(hS:∀k,lo≤k→k<w.heap.size→¬S k):YR lo w' size x m news:=⟨h.1.keepF hk fun k hk l=>hS k (h.2 k hk) l,h.2⟩
structure YI(lo:Nat)(w:World)(v:Value)(P:List SV):Prop where
 row:YR lo w 9 v P.length (P.flatMap SV.cells)
 ln:∀x∈P,YR lo w 3 x.v x.s.lines.length (x.s.lines.flatMap Ln.cells)
theorem YI.keep{lo:Nat}{S:Nat→Prop}{w w':World}{v:Value}{P:List SV}(h:YI lo w v P)(hk:Keeps S w w')(hS:∀k,lo≤k→k<w.heap.size→¬S k):YI lo w' v P:=⟨h.row.keep hk hS,fun x hx=>(h.ln x hx).keep hk hS⟩
theorem YI.of{lo:Nat}{w W:World}{v:Value}{Q:List SV}(h:OwnP w W v Q)(hl:lo≤w.heap.size):YI lo W v Q:=⟨⟨Reads.Bh h.row,fun k hk=>Nat.le_trans hl (h.fr.2 k hk)⟩,fun x hx=>⟨Reads.Bh (h.ln x hx),fun k hk=>Nat.le_trans hl (h.lf x hx k hk)⟩⟩
theorem YI.pages{lo:Nat}{w:World}{v:Value}{Q:List SV}{a:Ac}(h:YI lo w v Q)(hq:Q.map SV.s=a.iss)(ho:AcOk a):Pages19 w v Q:=by
 have hn:=ho.nums;refine⟨h.row.1,fun x hx=>(h.ln x hx).1,fun x hx=> ?_, ?_⟩
 ·have:=ho.ill x.s (by rw [←hq];exact List.mem_map_of_mem hx);have:=hn.n8;omega
 ·have:=congrArg List.length hq;rw [List.length_map,ho.il] at this;have:=hn.o3;omega
theorem Ac.act_seq{a:Ac}{c:Cmd}(h:a.dz c=0)(hc:chB c=true):(a.act c).seq=a.seq+1:=by
 simp only [chB,Bool.and_eq_true,decide_eq_true_eq] at hc;unfold Ac.dz at h;unfold Ac.act;by_cases h8:c.kind=8
 ·rw [if_pos h8] at h⊢;unfold Ac.tick;rw [if_pos h]
 ·rw [if_neg h8,if_neg (by omega),if_neg (by omega),if_neg (by omega),if_pos (by omega)] at h;rw [if_neg h8,if_pos (by omega),(Ac.chg_yes h).1];unfold Ac.nx Ac.count
  split
  ·rfl
  ·rename_i h6
   split
   ·rfl
   ·rename_i h0
    unfold Ac.xe at h
    split at h
    ·rename_i hz;exact absurd h hz
    ·first|exact absurd h h0|(rw [if_neg h6] at h;exact absurd h h0)
theorem Ac.act_same{a:Ac}{c:Cmd}(h:¬(a.dz c=0∧chB c=true)):a.act c=a:=by
 unfold Ac.act;by_cases h8:c.kind=8
 ·rw [if_pos h8];have hz:¬a.te c.day=0:=fun e=>h ⟨by unfold Ac.dz;rw [if_pos h8,e],by simp [chB,h8]⟩;unfold Ac.tick;rw [if_neg hz]
 ·rw [if_neg h8];by_cases h17:1≤c.kind∧c.kind≤7
  ·rw [if_pos h17];have hz:¬a.xe c=0:=fun e=>h ⟨by unfold Ac.dz;rw [if_neg h8,if_neg (by omega),if_neg (by omega),if_neg (by omega),if_pos h17,e],by simp [chB];omega⟩;exact(Ac.chg_no rfl hz).1
  ·rw [if_neg h17]
theorem Ac.no_ans{a:Ac}{c:Cmd}(h:¬a.dz c=0):a.dr c=0∧a.dc c=0∧a.ds c=st00∧a.dp c=stm00:=by
 unfold Ac.dz at h;unfold Ac.dr Ac.dc Ac.ds Ac.dp;by_cases h8:c.kind=8
 ·rw [if_pos h8] at h;rw [if_neg (by omega),if_pos h8,if_neg (by omega),if_neg (by omega),if_neg (by omega)];exact⟨rfl,by unfold Ac.tc;rw [if_neg fun e=>h e.1],rfl,rfl⟩
 rw [if_neg h8] at h;by_cases h9:c.kind=9
 ·rw [if_pos h9] at h;exact absurd rfl h
 rw [if_neg h9] at h;rw [if_neg h8,if_neg h9];by_cases h17:1≤c.kind∧c.kind≤7
 ·rw [if_neg (by omega),if_neg (by omega),if_pos h17] at h;rw [if_pos h17,if_neg (by omega),if_neg (by omega)];exact⟨(Ac.chg_no rfl h).2,rfl,rfl,rfl⟩
 rw [if_neg h17];refine⟨rfl,rfl,rfl, ?_⟩;by_cases h10:c.kind=10
 ·rw [if_pos h10] at h⊢;exact jY13
 ·rw [if_neg h10] at h⊢;by_cases h11:c.kind=11
  ·rw [if_pos h11] at h⊢;exact jY13
  ·rw [if_neg h11]
theorem wpList_load_row_g{P:Program}{ops:Array Oper}{rest:List Oper}{o:Oper}{a:Act}{w:World}{Q:Exit→Act→World→Prop}(hw:Region.wanted o (yielded ops a.tmps)=true)(ty:TypeId)(x:Operand)(ho:o.op= .load ty x)
  (g:Nat) (hx:a.eval x= .pointer (some ⟨g,0,none⟩)) (t:TypeId) (cs:Array Value) (fr:Nat×Nat) (d:TypeDesc) (hg:w.heap[g]?=some (.cells cs t fr))
  (hu:P.underlying ty=some d) (hd:(match d with| .struct _| .array _ _=>true|_=>false)=true) (hi:(P.info? ty).map (·.size)=some cs.size)
  (h:wpList P ops Q rest (a.put o.dst (.agg cs)) w):wpList P ops Q (o::rest) a w:=by
 unfold wpList;rw [if_pos hw];exact .inl (wp_load_row ty x ho g hx t cs fr d hg hu hd hi h)
def rf12(m:Nat)(sq:Int)(w:World):Prop:=w.cell? ⟨m,7,none⟩=some (.int .i64 sq)
theorem rf12.keep{m:Nat}{sq:Int}{w w':World}(h:rf12 m sq w)(hk:Keeps (fun _=>False) w w'):rf12 m sq w':=(hk.cell (Ag h) (by simp)).trans h
def rf14(m:Nat)(td cy cr du sq:Int)(v1 v2 v3:Value)(w:World):Prop:=w.cell? ⟨m,0,none⟩=some (.int .i64 td)∧w.cell? ⟨m,1,none⟩=some (.int .i64 cy)∧w.cell? ⟨m,2,none⟩=some v1∧w.cell? ⟨m,3,none⟩=some (.int .i64 cr)∧w.cell? ⟨m,4,none⟩=some (.int .i64 du)∧w.cell? ⟨m,5,none⟩=some v2∧w.cell? ⟨m,6,none⟩=some v3∧w.cell? ⟨m,7,none⟩=some (.int .i64 sq)
theorem rf14.of{m:Nat}{td cy cr du sq:Int}{v1 v2 v3:Value}{w:World}(h:w.heap[m]?=some (.cells #[.int .i64 td,.int .i64 cy,v1,.int .i64 cr,.int .i64 du,v2,v3,.int .i64 sq] 37 (0,0))):rf14 m td cy cr du sq v1 v2 v3 w:=⟨Aa h 0,Aa h 1,Aa h 2,Aa h 3,Aa h 4,Aa h 5,Aa h 6,Aa h 7⟩
theorem rf14.keep{m:Nat}{td cy cr du sq:Int}{v1 v2 v3:Value}{w w':World}(h:rf14 m td cy cr du sq v1 v2 v3 w)(hk:Keeps (fun _=>False) w w'):rf14 m td cy cr du sq v1 v2 v3 w':=by
 obtain⟨c0,c1,c2,c3,c4,c5,c6,c7⟩:=h;exact⟨(hk.cell (Ag c0) (by simp)).trans c0,(hk.cell (Ag c1) (by simp)).trans c1,(hk.cell (Ag c2) (by simp)).trans c2,(hk.cell (Ag c3) (by simp)).trans c3,(hk.cell (Ag c4) (by simp)).trans c4,(hk.cell (Ag c5) (by simp)).trans c5,(hk.cell (Ag c6) (by simp)).trans c6,(hk.cell (Ag c7) (by simp)).trans c7⟩
theorem YR.rd{lo:Nat}{w:World}{size:Nat}{x:Value}{m:Nat}{news:List Value}(h:YR lo w size x m news):Reads w size x m news:=h.1
set_option maxHeartbeats 3200000
theorem accountRefuses_walk(w:World)(t:Tm)(adt:Option Addr)(ct:Nat)(htr:Reads w 2 (.slice adt t.trs.length ct) t.trs.length (t.trs.flatMap Tn.cells))(htm:t.trs.length≤maxLen)
  (ad:Option Addr) (cap:Nat) (L:List Cmd) (hr:Reads w 5 (.slice ad L.length cap) L.length (L.flatMap Cmd.cells)) (_:∀a∈L,a.wf) (hm:L.length≤maxLen):
  Calls Tryz.prog 10 #[t.val (.slice adt t.trs.length ct),.slice ad L.length cap] w fun e w'=>e= .returned (.bool true)∧Below w.heap.size w w':=by
 obtain⟨n,hn⟩:∃n,t.trs.length=n:=⟨_,rfl⟩;obtain⟨N,hN⟩:∃N,L.length=N:=⟨_,rfl⟩;rw [hn] at htr htm;rw [hN] at hr hm;simp only [Tm.val];rw [hn,hN];have hmx:n≤9223372036854775807:=htm;have hNx:N≤9223372036854775807:=hm;obtain⟨P,hP⟩:∃P,playT t=P:=⟨_,rfl⟩;have hpt:=fun W (hW:Keeps (fun _=>False) w W)=>playTerms_any t adt ct n W hn (htr.keeps hW (by simp)) hmx;have hpo:=playT_ok t;rw [hP] at hpt hpo;obtain⟨pz,ps0,ps1⟩:=hpo;obtain⟨⟨pl0,pl1⟩,_,⟨pc0,pc1⟩,_⟩:=tm_nums pz;have hre:=repErr_play (L:= []) pz (by simp) (by simp) (Int.le_refl P.start) (by omega) (by omega);have hcm:=fun W (hW:Keeps (fun _=>False) w W)=>playCommands_any L ad cap N 30 W hN (hr.keeps hW (by simp)) hNx (by decide);rw [show((30:Nat):Int)=30 from rfl] at hcm;obtain⟨Htr,Hr,Hn,HN,HP,Hpt,Hre,Hcm,Pz⟩:=hid9 htr hr hn hN hP hpt hre hcm pz;clear pz hcm hre hpt hP hN hn hr htr
 go_enter Tryz.func10,Tryz.ntmps10
 go_wp2_with (go_at_call 24;(with_reducible refine(Hpt.out _ (Keeps.alloc _ _)).mono ?_);rintro e w1 ⟨v1,rfl,hrd1,hk1,hfr1⟩;obtain⟨av,cv,rfl,_⟩:=id hrd1;have Hfr1:=Lib.hid hfr1;clear hfr1;have hb1:=box_new hk1 (by simp);have Hrd1:=Lib.hid hrd1;have Hk1:=Lib.hid ((Keeps.alloc (S:=fun _=>False) w _).nt hk1);have Hb1:=Lib.hid hb1;clear hrd1 hk1 hb1;refine haltW ?_)
 refine Lib.hid ?_;obtain⟨B,hBe⟩:∃x,x=w.heap.size:=⟨_,rfl⟩;rw [←hBe] at Hb1⊢;have hwk1:=store7 Hb1.out (.int .i64 P.limit) (.slice av P.trs.length cv) (.int .i64 P.cyc) (.int .i64 P.due) (.int .i64 P.minFixed) (.int .i64 P.minPart) (.int .i64 P.start);obtain⟨w2,hw2⟩:∃x,x=((((((w1.setCell ⟨B,0,none⟩ (.int .i64 P.limit)).setCell ⟨B,1,none⟩ (.slice av P.trs.length cv)).setCell ⟨B,2,none⟩ (.int .i64 P.cyc)).setCell ⟨B,3,none⟩ (.int .i64 P.due)).setCell ⟨B,4,none⟩ (.int .i64 P.minFixed)).setCell ⟨B,5,none⟩ (.int .i64 P.minPart)).setCell ⟨B,6,none⟩ (.int .i64 P.start):=⟨_,rfl⟩;rw [←hw2] at hwk1;obtain⟨hb2,hk12⟩:=hwk1;have hk2:Keeps (fun _=>False) w w2:=Hk1.out.trans (hk12.mono fun i _ e=> .inr (by have e':i=B:=e;omega));have hrd2:Reads w2 2 (.slice av P.trs.length cv) P.trs.length (P.trs.flatMap Tn.cells):=Hrd1.out.keeps hk12 (fun g hg e=>by
  have e':g=B:=e;rcases Hfr1.out with h|h
  ·rw [h] at hg;obtain⟨g',e1,e2⟩:=Htr.out.lt (fun e=>by
    have h2:=congrArg List.length e;rw [flatMap_len t.trs,Hn.out] at h2;simp only [Value.slice.injEq] at h;simp at h2;omega)
   rw [e1] at hg;injection hg with hg;omega
  ·have:=h g hg;simp only [World.size_alloc] at this;omega)
 have s0:=Aa (Hb1.out) 0;have s1:=Aa (Hb1.out) 1;have s2:=Aa (Hb1.out) 2;have s3:=Aa (Hb1.out) 3;have s4:=Aa (Hb1.out) 4;have s5:=Aa (Hb1.out) 5;have s6:=Aa (Hb1.out) 6;have sl:=lt_of_block (Hb1.out);have f0:=Ab (Hb1.out) 0;have f1:=Ab (Hb1.out) 1;have f2:=Ab (Hb1.out) 2;have f3:=Ab (Hb1.out) 3;have f4:=Ab (Hb1.out) 4;have f5:=Ab (Hb1.out) 5;have f6:=Ab (Hb1.out) 6;obtain⟨Hb2,Hk12,Hk2,Hrd2,HBe⟩:=hid5 hb2 hk12 hk2 hrd2 hBe;clear hBe hrd2 hk2 hk12 hb2
 go_upto_region 2 with fail
 rw [←hw2];clear hw2 s0 s1 s2 s3 s4 s5 s6 sl f0 f1 f2 f3 f4 f5 f6
 go_wp2_with fail
 refine(Hcm.out w2 Hk2.out).mono ?_;rintro e w3 ⟨v,O,rfl,hat,hol⟩;obtain⟨M,hM⟩:∃M,O.length=M:=⟨_,rfl⟩;have hrow:=hat.1;have hkat:=hat.2.1;have hfat:=hat.2.2;rw [hM] at hrow hol;obtain⟨al,cl,rfl,_,_⟩:=Aj hrow;have hk3:=Hk2.out.nt hkat;have hb3:=Ad Hb2.out hkat (by simp);have hrd3:=Hrd2.out.keeps hkat (by simp);have hrl:=Reads.Bh hrow;have hOl:∀k,(Value.slice al M cl).ownBlock=some k→k<w3.heap.size:=fun k hk=>Bu hrow hk;clear hat hkat;have t0:=Aa (hb3) 0;have t1:=Aa (hb3) 1;have t2:=Aa (hb3) 2;have t3:=Aa (hb3) 3;have t4:=Aa (hb3) 4;have t5:=Aa (hb3) 5;have t6:=Aa (hb3) 6;have tl:=lt_of_block (hb3);obtain⟨Hk3,Hb3,Hrd3,Hrow,Hfat,Hrl,HOl,HM⟩:=hid8 hk3 hb3 hrd3 hrow hfat hrl hOl hM;clear hM hOl hrl hfat hrow hrd3 hb3 hk3
 go_wp2_with fail
 refine(live_new (O:=fun k=>(Value.slice al M cl).ownBlock=some k) Hk3.out HOl.out Hrd3.out Hre.out).mono ?_;clear t0 t1 t2 t3 t4 t5 t6 tl;rintro e w4 ⟨K,rfl,hL4,hk34⟩;have hrl4:=Hrl.out.keeps hk34 (by simp);clear hk34;obtain⟨HL4,Hrl4⟩:=hid2 hL4 hrl4;clear hrl4 hL4
 go_wp2_with fail
 refine(awake22_any _).mono ?_;rintro e w5 ⟨rfl,hk5⟩;have hL5:=HL4.out.keep hk5;have hrl5:=Hrl4.out.keeps hk5 (by simp);clear hk5;obtain⟨HL5,Hrl5⟩:=hid2 hL5 hrl5;clear hrl5 hL5
 go_wp2_with fail
 go_loopw [7] (fun c wr=>∃(i:Nat) (A:Ac),i≤M∧c= .int .i64 (i:Nat)∧Live w (fun k=>(Value.slice al M cl).ownBlock=some k) wr K A∧A.seq≤i∧Reads wr 5 (.slice al M cl) M (O.flatMap Cmd.cells)) (fun c _=>M-(intOf c).toNat)
 case atStart=>exact⟨0,acNew P,Nat.zero_le _,rfl,HL5.out,by show(0:Int)≤_;decide,Hrl5.out⟩
 case round=>
  obtain⟨i,A,hiM,rfl,hL,hsq,hrr⟩:=hrel;by_cases hlt:i<M
  ·have hltI:(i:Int)<(M:Int):=by omega
   obtain⟨⟨ki,da,tr,am,re⟩,hx⟩:=Av (L:=O) (k:=i) (by rw [HM.out];exact hlt);obtain⟨g,o,c',he,hc⟩:=hrr.elem Cmd.Am hx (by decide);simp only [Value.slice.injEq,true_and] at he;obtain⟨rfl,rfl⟩:=he;have hcell:∀W S,Keeps S wr W→¬S g→W.cell? ⟨g,o+i*5,none⟩=some (.int .i64 ki)∧W.cell? ⟨g,o+i*5+1,none⟩=some (.int .i64 da)∧W.cell? ⟨g,o+i*5+2,none⟩=some (.int .i64 tr)∧W.cell? ⟨g,o+i*5+3,none⟩=some (.int .i64 am)∧W.cell? ⟨g,o+i*5+4,none⟩=some (.int .i64 re)∧g<W.heap.size:=by
    intro W S hk hn;have h0:=hc 0 (by decide);have h1:=hc 1 (by decide);have h2:=hc 2 (by decide);have h3:=hc 3 (by decide);have h4:=hc 4 (by decide);exact⟨(hk.cell (Ag h0) hn).trans h0,(hk.cell (Ag h1) hn).trans h1,(hk.cell (Ag h2) hn).trans h2,(hk.cell (Ag h3) hn).trans h3,(hk.cell (Ag h4) hn).trans h4,Nat.lt_of_lt_of_le (Ag h0) hk.size⟩
   clear hc;obtain⟨n1,hn1⟩:∃n,A.s.p.bal.length=n:=⟨_,rfl⟩;obtain⟨n2,hn2⟩:∃n,A.s.R.length=n:=⟨_,rfl⟩;obtain⟨n3,hn3⟩:∃n,A.D.length=n:=⟨_,rfl⟩;obtain⟨td,htd⟩:∃n,A.today=n:=⟨_,rfl⟩;obtain⟨cy,hcy⟩:∃n,A.cyc A.today=n:=⟨_,rfl⟩;obtain⟨sq,hsqe⟩:∃n,A.seq=n:=⟨_,rfl⟩;obtain⟨cr,hcr⟩:∃n,A.s.p.cr=n:=⟨_,rfl⟩;obtain⟨du,hdu⟩:∃n,A.s.p.du=n:=⟨_,rfl⟩;obtain⟨n4,hn4⟩:∃n,A.L.length=n:=⟨_,rfl⟩;obtain⟨n5,hn5⟩:∃n,A.adj.length=n:=⟨_,rfl⟩;have hst:=live_st hL htd hcy hsqe hcr hdu hn1 hn2 hn3;obtain⟨wR,hwR⟩:∃x,x=wr:=⟨_,rfl⟩;subst hwR;have hsqle:=hsq;obtain⟨Hsqle,HL,Hrr,Hx,Hcell,Hst,Hn1,Hn2,Hn3⟩:=hid9 hsqle hL hrr hx hcell hst hn1 hn2 hn3;clear hn3 hn2 hn1 hst hcell hx hrr hL hsqle;obtain⟨Htd,Hcy,Hsqe,Hcr,Hdu,Hn4,Hn5⟩:=hid7 htd hcy hsqe hcr hdu hn4 hn5;clear hn5 hn4 hdu hcr hsqe hcy htd
   go_wp2_with fail
   refine Hst.out.mono ?_;rintro e w6 ⟨q1,c1,q2,c2,q3,c3,rfl,r1,r2,r3,hk6,hf6⟩;have y1:YR wR.heap.size w6 1 (.slice q1 n1 c1) n1 (A.s.p.bal.flatMap i64c):=⟨Reads.Bh r1,fun k hk=>hf6 k (.inl hk)⟩;have y2:YR wR.heap.size w6 1 (.slice q2 n2 c2) n2 (A.s.R.flatMap i64c):=⟨Reads.Bh r2,fun k hk=>hf6 k (.inr (.inl hk))⟩;have y3:YR wR.heap.size w6 5 (.slice q3 n3 c3) n3 (A.D.flatMap Disp.cells):=⟨Reads.Bh r3,fun k hk=>hf6 k (.inr (.inr hk))⟩;have hL6:=HL.out.keep hk6;have hev:=live_ev hL6;unfold GivesEv at hev;rw [Hn4.out] at hev;clear r1 r2 r3 hf6;obtain⟨Y1,Y2,Y3,HL6,Hk6,Hev⟩:=hid6 y1 y2 y3 hL6 hk6 hev;clear hev hk6 hL6 y3 y2 y1
   go_wp2_with fail
   refine Hev.out.mono ?_;rintro e w7 ⟨v4,rfl,r4,hk7,hf7⟩;obtain⟨q4,c4,rfl,_⟩:=id r4;have hk67:=Hk6.out.nt hk7;have y4:YR wR.heap.size w7 5 (.slice q4 n4 c4) n4 (A.L.flatMap Ev.cells):=⟨r4,fun k hk=>Nat.le_trans Hk6.out.size (hf7 k hk)⟩;have hL7:=HL6.out.keep hk7;have hy1:=Y1.out.keep hk7 (by simp);have hy2:=Y2.out.keep hk7 (by simp);have hy3:=Y3.out.keep hk7 (by simp);have hiss:=live_iss hL7;clear r4 hf7 hk7;obtain⟨Y4,HL7,Hy1,Hy2,Hy3,Hiss,Hk67⟩:=hid7 y4 hL7 hy1 hy2 hy3 hiss hk67;clear hk67 hiss hy3 hy2 hy1 hL7 y4
   go_wp2_with fail
   refine Hiss.out.mono ?_;rintro e w8 ⟨v5,Q,rfl,hp,hq⟩;have hk8:=hp.fr.1;have hk68:=Hk67.out.nt hk8;obtain⟨n6,hn6⟩:∃n,Q.length=n:=⟨_,rfl⟩;obtain⟨q5,c5,hv5⟩:∃a c,v5= .slice a n6 c:=by obtain⟨a,c,h,_⟩:=Aj hp.row;exact⟨a,c,by rw [h,hn6]⟩
   subst hv5;have y5:=YI.of hp (lo:=wR.heap.size) Hk67.out.size;have hL8:=HL7.out.keep hk8;have hy1:=Hy1.out.keep hk8 (by simp);have hy2:=Hy2.out.keep hk8 (by simp);have hy3:=Hy3.out.keep hk8 (by simp);have hy4:=Y4.out.keep hk8 (by simp);have hadj:=live_adj hL8 (by omega);unfold AdjPost at hadj;rw [Hn5.out] at hadj;clear hp hk8;clear Hy1 Hy2 Hy3 Y1 Y2 Y3 Y4;obtain⟨Y5,HL8,Hy1,Hy2,Hy3,Hy4,Hadj,Hk68,Hq⟩:=hid9 y5 hL8 hy1 hy2 hy3 hy4 hadj hk68 hq;clear hq hk68 hadj hy4 hy3 hy2 hy1 hL8 y5;have Hn6:=Lib.hid hn6;clear hn6
   go_wp2_with fail
   refine Hadj.out.mono ?_;rintro e w9 ⟨v6,rfl,r6,hf9⟩;obtain⟨q6,c6,rfl,_,_⟩:=Aj r6;have hk9:=hf9.1;have hk69:=Hk68.out.nt hk9;have y6:YR wR.heap.size w9 9 (.slice q6 n5 c6) n5 (A.adj.flatMap Adj.cells):=⟨Reads.Bh r6,fun k hk=>Nat.le_trans Hk68.out.size (hf9.2 k hk)⟩;have hL9:=HL8.out.keep hk9;have hy1:=Hy1.out.keep hk9 (by simp);have hy2:=Hy2.out.keep hk9 (by simp);have hy3:=Hy3.out.keep hk9 (by simp);have hy4:=Hy4.out.keep hk9 (by simp);have hy5:=Y5.out.keep hk9 (by simp);clear hk9 hf9 r6 Hy1 Hy2 Hy3 Hy4 Y5;obtain⟨Y6,HL9,Hy1,Hy2,Hy3,Hy4,Hy5,Hk69⟩:=hid8 y6 hL9 hy1 hy2 hy3 hy4 hy5 hk69;clear hk69 hy5 hy4 hy3 hy2 hy1 hL9 y6;obtain⟨wa,hwa⟩:∃W,W=((w9).alloc (.cells #[.int .i64 0,.int .i64 0,.slice none 0 0,.int .i64 0,.int .i64 0,.slice none 0 0,.slice none 0 0,.int .i64 0] 37)).setRow (w9).heap.size #[.int .i64 td,.int .i64 cy,.slice q1 n1 c1,.int .i64 cr,.int .i64 du,.slice q2 n2 c2,.slice q3 n3 c3,.int .i64 sq]:=⟨_,rfl⟩;obtain⟨hLa,hba,hka⟩:=Live.box HL9.out hwa;obtain⟨ms,hms⟩:∃b,b=(w9).heap.size:=⟨_,rfl⟩;have hgems:(w9).heap.size≤ms:=by rw [hms];exact Nat.le_refl _
   rw [←hms] at hLa hba;have h1wa:(#[.int .i64 td,.int .i64 cy,.slice q1 n1 c1,.int .i64 cr,.int .i64 du,.slice q2 n2 c2,.slice q3 n3 c3,.int .i64 sq]:Array Value).all (·.oneCell')=true:=(one_st _ _ _ _ _ _ _ _ _ _ _ _ _ _);obtain⟨HLa,Hba,Hka,H1wa⟩:=hid4 hLa hba hka h1wa;clear h1wa hka hba hLa
   go_upto_region 10 with(refine wpList_store_row rfl 37 (.tmp 8) (.tmp 39) rfl (w9).heap.size #[.int .i64 td,.int .i64 cy,.slice q1 n1 c1,.int .i64 cr,.int .i64 du,.slice q2 n2 c2,.slice q3 n3 c3,.int .i64 sq] rfl rfl 37 #[.int .i64 0,.int .i64 0,.slice none 0 0,.int .i64 0,.int .i64 0,.slice none 0 0,.slice none 0 0,.int .i64 0] (heap_alloc_new w9 _) Cq rfl H1wa.out ?_;rw [←hwa,←hms];clear hwa hms)
   have hkRa:=Hk69.out.nt Hka.out;have hmsR:wR.heap.size≤ms:=Nat.le_trans Hk69.out.size hgems;have hLo:=HL.out.more hkRa (fun k=>wR.heap.size≤k∧k<wa.heap.size) (fun k hk=>hk);have hy1:=Hy1.out.keep Hka.out (by simp);have hy2:=Hy2.out.keep Hka.out (by simp);have hy3:=Hy3.out.keep Hka.out (by simp);have hy4:=Hy4.out.keep Hka.out (by simp);have hy5:=Hy5.out.keep Hka.out (by simp);have hy6:=Y6.out.keep Hka.out (by simp);obtain⟨x0,x1,x2,x3,x4,xl⟩:=Hcell.out wa _ hkRa (by simp);have hdo:=live_do hLo ⟨ki,da,tr,am,re⟩ (by have:=Hsqe.out;omega);simp only at hdo;unfold DoLive at hdo;have hsame:=Ac.act_same (a:=A) (c:=⟨ki,da,tr,am,re⟩);have hseq:=Ac.act_seq (a:=A) (c:=⟨ki,da,tr,am,re⟩);have hseq2:=(A.seq_act ⟨ki,da,tr,am,re⟩).2;have hnoa:=Ac.no_ans (a:=A) (c:=⟨ki,da,tr,am,re⟩);obtain⟨z,hz⟩:∃z,A.dz ⟨ki,da,tr,am,re⟩=z:=⟨_,rfl⟩;obtain⟨cb,hcb⟩:∃b,chB ⟨ki,da,tr,am,re⟩=b:=⟨_,rfl⟩;obtain⟨A',hA'⟩:∃A',A.act ⟨ki,da,tr,am,re⟩=A':=⟨_,rfl⟩;rw [hz,hA'] at hdo;rw [hz,hcb,hA'] at hsame hseq;rw [hz] at hnoa;rw [hA'] at hseq2;clear Hy1 Hy2 Hy3 Hy4 Hy5 Y6 hgems;obtain⟨HkRa,HLo,Hy1,Hy2,Hy3,Hy4,Hy5,Hy6,Hdo⟩:=hid9 hkRa hLo hy1 hy2 hy3 hy4 hy5 hy6 hdo;clear hdo hy6 hy5 hy4 hy3 hy2 hy1 hLo hkRa;obtain⟨Hsame,Hseq,Hseq2,Hnoa,Hz,Hcb,HA'⟩:=hid7 hsame hseq hseq2 hnoa hz hcb hA';clear hA' hcb hz hnoa hseq2 hseq hsame
   go_wp2_with fail
   refine Hdo.out.mono ?_;rintro e wb ⟨v,rfl,hans,hLb,hkb⟩;have hS:∀k,wR.heap.size≤k→k<wa.heap.size→¬(w.heap.size≤k∧¬((Value.slice (some ⟨g,o,none⟩) M cl).ownBlock=some k∨(wR.heap.size≤k∧k<wa.heap.size))):=fun k h1 h2 e=>e.2 (.inr ⟨h1,h2⟩);have hkRb:=keeps_front HkRa.out hkb;have hrb:Reads wb 5 (.slice (some ⟨g,o,none⟩) M cl) M (O.flatMap Cmd.cells):=(Hrr.out.keeps HkRa.out (by simp)).keepF hkb (fun k hk _ e=>e.2 (.inl hk));have hsb:=Ad Hba.out hkb (hS ms hmsR (lt_of_block Hba.out));have hz1:=Hy1.out.keep hkb hS;have hz2:=Hy2.out.keep hkb hS;have hz3:=Hy3.out.keep hkb hS;have hz4:=Hy4.out.keep hkb hS;have hz5:=Hy5.out.keep hkb hS;have hz6:=Hy6.out.keep hkb hS;have hcl:=fun W (hW:Keeps (fun _=>False) wb W)=>Hcell.out W _ (keeps_back hkRb hW) (fun e=>e.2 (.inl rfl));have hok:=live_ok HL.out;have hnm:=hok.nums;have hsqb:0≤A.seq∧A.seq≤100000:=⟨hok.s0,by omega⟩;have hnb:n1≤1000000∧n2≤1000000∧n3≤1000000:=⟨by have:=hnm.nb;have:=hnm.n8;have:=Hn1.out;omega,by have:=hnm.nr;have:=hnm.n8;have:=Hn2.out;omega,by obtain⟨xv,hxv⟩:=HL.out.is;have:=hxv.1.bk.ok.1;have:=Hn3.out;omega⟩;have hn4b:A.L.length≤1000000000000:=by have:=hnm.ll;omega
   have hn5b:A.adj.length≤1000000000000:=by have:=hok.aj;omega
   clear hkRb hok hnm hS hkb hmsR HkRa Hy1 Hy2 Hy3 Hy4 Hy5 Hy6 Hcell Hba HLo x0 x1 x2 x3 x4 xl;obtain⟨Hrb,Hsb,Hz1,Hz2,Hz3,Hz4,Hz5,Hz6,Hcl⟩:=hid9 hrb hsb hz1 hz2 hz3 hz4 hz5 hz6 hcl;clear hcl hz6 hz5 hz4 hz3 hz2 hz1 hsb hrb;obtain⟨Hsqb,Hnb,Hn4b,Hn5b⟩:=hid4 hsqb hnb hn4b hn5b;clear hn5b hn4b hnb hsqb;by_cases hz0:z=0
   ·subst hz0;obtain⟨s0,s1,s3,s4,s7,p0,p1,p2,p3,p5,p6,p7,k1,m1,d1,k2,m2,d2,k3,m3,d3,k4,m4,d4,gr,rfl⟩:=hans.letters;obtain⟨rr,hdr⟩:∃r,A.dr ⟨ki,da,tr,am,re⟩=r:=⟨_,rfl⟩;obtain⟨ry,hdc⟩:∃r,A.dc ⟨ki,da,tr,am,re⟩=r:=⟨_,rfl⟩;rw [hdr,hdc];clear hans;obtain⟨Hdr,Hdc⟩:=hid2 hdr hdc;clear hdc hdr;obtain⟨wc,hwc⟩:∃W,W=((wb).alloc (.cells #[.int .i64 0,.int .i64 0,.int .i64 0,.int .i64 0,.int .i64 0,.slice none 0 0,.int .i64 0,.int .i64 0,.slice none 0 0,.slice none 0 0,.int .i64 0,.int .i64 0,.int .i64 0,.int .i64 0,.int .i64 0,.slice none 0 0,.int .i64 0,.int .i64 0,.int .i64 0,.bool false] 44)).setRow (wb).heap.size #[.int .i64 0,.int .i64 rr,.int .i64 ry,.int .i64 s0,.int .i64 s1,.slice k1 m1 d1,.int .i64 s3,.int .i64 s4,.slice k2 m2 d2,.slice k3 m3 d3,.int .i64 s7,.int .i64 p0,.int .i64 p1,.int .i64 p2,.int .i64 p3,.slice k4 m4 d4,.int .i64 p5,.int .i64 p6,.int .i64 p7,.bool gr]:=⟨_,rfl⟩;obtain⟨hLc,hbc,hkc⟩:=Live.box hLb hwc;obtain⟨mc,hmc⟩:∃b,b=(wb).heap.size:=⟨_,rfl⟩;rw [←hmc] at hLc hbc;have h1wc:(#[.int .i64 0,.int .i64 rr,.int .i64 ry,.int .i64 s0,.int .i64 s1,.slice k1 m1 d1,.int .i64 s3,.int .i64 s4,.slice k2 m2 d2,.slice k3 m3 d3,.int .i64 s7,.int .i64 p0,.int .i64 p1,.int .i64 p2,.int .i64 p3,.slice k4 m4 d4,.int .i64 p5,.int .i64 p6,.int .i64 p7,.bool gr]:Array Value).all (·.oneCell')=true:=(one_ansL 0 rr ry s0 s1 s3 s4 s7 p0 p1 p2 p3 p5 p6 p7 k1 k2 k3 k4 m1 d1 m2 d2 m3 d3 m4 d4 gr);obtain⟨HLc,Hbc,Hkc,H1wc⟩:=hid4 hLc hbc hkc h1wc;clear h1wc hkc hbc hLc
    go_upto_region 11 with(refine wpList_store_row rfl 44 (.tmp 12) (.tmp 51) rfl (wb).heap.size #[.int .i64 0,.int .i64 rr,.int .i64 ry,.int .i64 s0,.int .i64 s1,.slice k1 m1 d1,.int .i64 s3,.int .i64 s4,.slice k2 m2 d2,.slice k3 m3 d3,.int .i64 s7,.int .i64 p0,.int .i64 p1,.int .i64 p2,.int .i64 p3,.slice k4 m4 d4,.int .i64 p5,.int .i64 p6,.int .i64 p7,.bool gr] rfl rfl 44 #[.int .i64 0,.int .i64 0,.int .i64 0,.int .i64 0,.int .i64 0,.slice none 0 0,.int .i64 0,.int .i64 0,.slice none 0 0,.slice none 0 0,.int .i64 0,.int .i64 0,.int .i64 0,.int .i64 0,.int .i64 0,.slice none 0 0,.int .i64 0,.int .i64 0,.int .i64 0,.bool false] (heap_alloc_new wb _) Ar rfl H1wc.out ?_;rw [←hwc,←hmc];clear hwc hmc)
    obtain⟨x0,x1,x2,x3,x4,xl⟩:=Hcl.out wc Hkc.out;have b0:=Aa Hbc.out 0;have hch:Calls Tryz.prog 19 #[.agg #[.int .i64 ki,.int .i64 da,.int .i64 tr,.int .i64 am,.int .i64 re]] wc (fun e w'=>e= .returned (.bool cb)∧Keeps (fun _=>False) wc w'):=by have:=accChanges_any ⟨ki,da,tr,am,re⟩ wc;simp only at this;rw [Hcb.out] at this;exact this
    have Hch:=Lib.hid hch;clear hch
    go_wp2_with fail
    refine Hch.out.mono ?_;rintro e wd ⟨rfl,hkd⟩;clear x0 x1 x2 x3 x4 xl b0;have hkbd:=Hkc.out.nt hkd;have hLd:=HLc.out.keep hkd;have hsd:=Ad (Ad Hsb.out Hkc.out (by simp)) hkd (by simp);have hbd:=Ad Hbc.out hkd (by simp);have hrd:=Hrb.out.keeps hkbd (by simp);clear hkd;rcases cb with _|_
    ·have hAA:A'=A:=Hsame.out (by simp);rw [hAA] at hLd;have hz1:=Hz1.out.keep hkbd (by simp);have hz2:=Hz2.out.keep hkbd (by simp);have hz3:=Hz3.out.keep hkbd (by simp);have hz4:=Hz4.out.keep hkbd (by simp);have hz5:=Hz5.out.keep hkbd (by simp);have hz6:=Hz6.out.keep hkbd (by simp);clear Hz1 Hz2 Hz3 Hz4 Hz5 Hz6 hAA hkbd;obtain⟨Hz1,Hz2,Hz3,Hz4,Hz5,Hz6,HLd,Hsd,Hbd⟩:=hid9 hz1 hz2 hz3 hz4 hz5 hz6 hLd hsd hbd;clear hbd hsd hLd hz6 hz5 hz4 hz3 hz2 hz1;have Hrd:=Lib.hid hrd;clear hrd;have hst2:=fun W (hW:Keeps (fun _=>False) wd W)=>live_st (HLd.out.keep hW) Htd.out Hcy.out Hsqe.out Hcr.out Hdu.out Hn1.out Hn2.out Hn3.out;have hev2:∀W,Keeps (fun _=>False) wd W→Calls Tryz.prog 28 #[(.pointer (some ⟨K,0,none⟩))] W (GivesEv W A.L):=fun W hW=>live_ev (HLd.out.keep hW);have hiss2:∀W,Keeps (fun _=>False) wd W→Calls Tryz.prog 21 #[(.pointer (some ⟨K,0,none⟩))] W (OwnPost W A.iss):=fun W hW=>live_iss (HLd.out.keep hW);have hadj2:∀W,Keeps (fun _=>False) wd W→Calls Tryz.prog 26 #[(.pointer (some ⟨K,0,none⟩))] W (AdjPost W A.adj):=fun W hW=>live_adj (HLd.out.keep hW) (by have:=Hsqb.out;omega);have hS0:rf14 ms td cy cr du sq (.slice q1 n1 c1) (.slice q2 n2 c2) (.slice q3 n3 c3) wd:=rf14.of Hsd.out;obtain⟨Hst2,Hev2,Hiss2,Hadj2,HS0⟩:=hid5 hst2 hev2 hiss2 hadj2 hS0;clear hS0 hadj2 hiss2 hev2 hst2
     go_upto_region 14 with fail
     refine Ao (rf14 ms td cy cr du sq (.slice q1 n1 c1) (.slice q2 n2 c2) (.slice q3 n3 c3)) (.take 0 (.take 2 (.move 1 (.move 3 (.take 4 (.take 5 (.take 6 (.take 8 (.move 7 (.move 9 (.take 10 (.take 11 (.take 12 (.take 13 (.take 15 (.move 14 (.move 16 (.take 17 (.take 18 (.take 19 (.take 20 (.take 22 (.move 21 (.move 23 (.take 24 (.take 25 .done)))))))))))))))))))))))))) (by kernel_rfl) (by kernel_rfl) ?_ ?_
     ·exact HS0.out.keep (Keeps.drew _)
     intro wq hsw hkq
     repeat ((first|refine Ai rfl (by rfl) ?_|refine Af rfl (by rfl) ?_|(refine Ah (v:= ?_) rfl (by rfl) ?_ ?_;rotate_left;(· intro w' hSw;unfold rf14 at hSw;go_simp;(try with_reducible rfl));rotate_right));try simp only [aps])
     refine Ak rfl (fun K hK=> ?_)
     go_simp
     go_at_call 16
     ((with_reducible refine(Hst2.out wq hkq).mono ?_);rintro e we ⟨a1,e1,a2,e2,a3,e3,rfl,hra,hrb,hrc,hke,_⟩;dsimp only)
     refine hK.out _ _ (by exact hsw.keep hke) ?_;clear hK K
     try simp only [aps]
     repeat ((first|refine Ai rfl (by rfl) ?_|refine Af rfl (by rfl) ?_|(refine Ah (v:= ?_) rfl (by rfl) ?_ ?_;rotate_left;(· intro w' hSw;unfold rf14 at hSw;go_simp;(try with_reducible rfl));rotate_right));try simp only [aps])
     refine Ak rfl (fun K hK=> ?_)
     go_simp
     go_at_call 29
     ((with_reducible refine((sameState_any td cy cr du sq A.s.p.bal A.s.R A.D n1 n2 n3 a1 a2 a3 q1 q2 q3 e1 e2 e3 c1 c2 c3 we Hn1.out Hn2.out Hn3.out Hnb.out (Reads.Bh hra) (Reads.Bh hrb) (Reads.Bh hrc) (Hz1.out.keep (hkq.nt hke) (by simp)).rd (Hz2.out.keep (hkq.nt hke) (by simp)).rd (Hz3.out.keep (hkq.nt hke) (by simp)).rd)).mono ?_);rintro e wf ⟨rfl,hkf⟩;dsimp only)
     refine hK.out _ _ (by exact(hsw.keep hke).keep hkf) ?_;clear hK K
     try simp only [aps]
     repeat ((first|refine Ai rfl (by rfl) ?_|refine Af rfl (by rfl) ?_|(refine Ah (v:= ?_) rfl (by rfl) ?_ ?_;rotate_left;(· intro w' hSw;unfold rf14 at hSw;go_simp;(try with_reducible rfl));rotate_right));try simp only [aps])
     have hk2:=(hkq.nt hke).nt hkf;have hs2:=(hsw.keep hke).keep hkf;clear hsw hkq hke hkf hra hrb hrc;refine Ak rfl (fun K hK=> ?_)
     go_simp
     go_at_call 28
     ((with_reducible refine(Hev2.out wf hk2).mono ?_);rintro e wg ⟨v7,rfl,r7,hkg,_⟩)
     rw [Hn4.out] at r7;obtain⟨q7,c7,rfl,_⟩:=id r7;dsimp only;refine hK.out _ _ (by exact hs2.keep hkg) ?_;clear hK K
     try simp only [aps]
     repeat ((first|refine Ai rfl (by rfl) ?_|refine Af rfl (by rfl) ?_|(refine Ah (v:= ?_) rfl (by rfl) ?_ ?_;rotate_left;(· intro w' hSw;unfold rf14 at hSw;go_simp;(try with_reducible rfl));rotate_right));try simp only [aps])
     refine Ak rfl (fun K hK=> ?_)
     go_simp
     go_at_call 30
     ((with_reducible refine((plainEv_same A.L (.slice q7 n4 c7) (.slice q4 n4 c4) wg (by rw [Hn4.out];exact r7) (by rw [Hn4.out];exact(Hz4.out.keep (hk2.nt hkg) (by simp)).rd) Hn4b.out)).mono ?_);rintro e wh ⟨rfl,hkh⟩;dsimp only)
     refine hK.out _ _ (by exact(hs2.keep hkg).keep hkh) ?_;clear hK K
     try simp only [aps]
     repeat ((first|refine Ai rfl (by rfl) ?_|refine Af rfl (by rfl) ?_|(refine Ah (v:= ?_) rfl (by rfl) ?_ ?_;rotate_left;(· intro w' hSw;unfold rf14 at hSw;go_simp;(try with_reducible rfl));rotate_right));try simp only [aps])
     have hk3:=(hk2.nt hkg).nt hkh;have hs3:=(hs2.keep hkg).keep hkh;clear hs2 hk2 hkg hkh r7;refine Ak rfl (fun K hK=> ?_)
     go_simp
     go_at_call 21
     ((with_reducible refine(Hiss2.out wh hk3).mono ?_);rintro e wi ⟨v8,Q2,rfl,hp8,hq8⟩)
     obtain⟨q8,m8,c8,rfl⟩:∃a m c,v8= .slice a m c:=by obtain⟨a,c,h,_⟩:=Aj hp8.row;exact⟨a,_,c,h⟩
     have hki:=hp8.fr.1;dsimp only;refine hK.out _ _ (by exact hs3.keep hki) ?_;clear hK K
     try simp only [aps]
     repeat ((first|refine Ai rfl (by rfl) ?_|refine Af rfl (by rfl) ?_|(refine Ah (v:= ?_) rfl (by rfl) ?_ ?_;rotate_left;(· intro w' hSw;unfold rf14 at hSw;go_simp;(try with_reducible rfl));rotate_right));try simp only [aps])
     refine Ak rfl (fun K hK=> ?_)
     go_simp
     go_at_call 20
     ((with_reducible refine((sameStmL_any Q2 Q (.slice q8 m8 c8) (.slice q5 n6 c5) wi ((YI.of hp8 (Nat.le_refl _)).pages hq8 (live_ok HLd.out)) ((Hz5.out.keep (hk3.nt hki) (by simp)).pages Hq.out (live_ok HLd.out)) (hq8.trans Hq.out.symm))).mono ?_);rintro e wj ⟨rfl,hkj⟩;dsimp only)
     refine hK.out _ _ (by exact(hs3.keep hki).keep hkj) ?_;clear hK K
     try simp only [aps]
     repeat ((first|refine Ai rfl (by rfl) ?_|refine Af rfl (by rfl) ?_|(refine Ah (v:= ?_) rfl (by rfl) ?_ ?_;rotate_left;(· intro w' hSw;unfold rf14 at hSw;go_simp;(try with_reducible rfl));rotate_right));try simp only [aps])
     have hk4:=(hk3.nt hki).nt hkj;have hs4:=(hs3.keep hki).keep hkj;clear hs3 hk3 hki hkj hp8 hq8;refine Ak rfl (fun K hK=> ?_)
     go_simp
     go_at_call 26
     ((with_reducible refine(Hadj2.out wj hk4).mono ?_);rintro e wk ⟨v9,rfl,r9,hf9⟩)
     rw [Hn5.out] at r9;obtain⟨q9,c9,rfl,_,_⟩:=Aj r9;have hkk:=hf9.1;dsimp only;refine hK.out _ _ (by exact hs4.keep hkk) ?_;clear hK K
     try simp only [aps]
     repeat ((first|refine Ai rfl (by rfl) ?_|refine Af rfl (by rfl) ?_|(refine Ah (v:= ?_) rfl (by rfl) ?_ ?_;rotate_left;(· intro w' hSw;unfold rf14 at hSw;go_simp;(try with_reducible rfl));rotate_right));try simp only [aps])
     refine Ak rfl (fun K hK=> ?_)
     go_simp
     go_at_call 27
     ((with_reducible refine((plainAdj_same A.adj (.slice q9 n5 c9) (.slice q6 n5 c6) wk (by rw [Hn5.out];exact Reads.Bh r9) (by rw [Hn5.out];exact(Hz6.out.keep (hk4.nt hkk) (by simp)).rd) Hn5b.out)).mono ?_);rintro e wl ⟨rfl,hkl⟩;dsimp only)
     refine hK.out _ _ (by exact(hs4.keep hkk).keep hkl) ?_;clear hK K
     try simp only [aps]
     repeat ((first|refine Ai rfl (by rfl) ?_|refine Af rfl (by rfl) ?_|(refine Ah (v:= ?_) rfl (by rfl) ?_ ?_;rotate_left;(· intro w' hSw;unfold rf14 at hSw;go_simp;(try with_reducible rfl));rotate_right));try simp only [aps])
     refine Aw ?_;have hkz:=(hk4.nt hkk).nt hkl;clear hs4 hk4 hkk hkl r9 hf9;have Hkz:=Lib.hid hkz;clear hkz;have b0:=Aa (Ad Hbd.out Hkz.out (by simp)) 0
     go_wp2
     go_roundw
     case rel=>exact⟨i+1,A,by omega,rfl,(HLd.out.keep Hkz.out).less (fun k e=> .inl (.inl e)),by have:=Hsqle.out;omega,Hrd.out.keeps Hkz.out (by simp)⟩
     case measure=>simp [intOf];omega
    ·have hs1:A'.seq=sq+1:=by have h:=Hseq.out;simp at h;rw [h,Hsqe.out]
     have hq1:IntKind.i64.wrap (sq+1)=sq+1:=IntWalk.i64_in _ (by have:=Hsqb.out;have:=Hsqe.out;constructor<;>omega)
     obtain⟨td',htd'⟩:∃n,A'.today=n:=⟨_,rfl⟩;obtain⟨cy',hcy'⟩:∃n,A'.cyc A'.today=n:=⟨_,rfl⟩;obtain⟨cr',hcr'⟩:∃n,A'.s.p.cr=n:=⟨_,rfl⟩;obtain⟨du',hdu'⟩:∃n,A'.s.p.du=n:=⟨_,rfl⟩;obtain⟨j1,hj1⟩:∃n,A'.s.p.bal.length=n:=⟨_,rfl⟩;obtain⟨j2,hj2⟩:∃n,A'.s.R.length=n:=⟨_,rfl⟩;obtain⟨j3,hj3⟩:∃n,A'.D.length=n:=⟨_,rfl⟩;have hst2:=fun W (hW:Keeps (fun _=>False) wd W)=>live_st (hLd.keep hW) htd' hcy' hs1 hcr' hdu' hj1 hj2 hj3;have hS0:rf12 ms sq wd:=Aa hsd 7;have hsqn:A'.seq≤(i:Int)+1:=by have:=Hseq2.out;omega
     clear hkbd;obtain⟨HLd,Hsd,Hbd,Hrd,Hs1,Htd',Hcy',Hcr',Hdu'⟩:=hid9 hLd hsd hbd hrd hs1 htd' hcy' hcr' hdu';clear hdu' hcr' hcy' htd' hs1 hrd hbd hsd hLd;obtain⟨Hj1,Hj2,Hj3,Hst2,HS0,Hsqn⟩:=hid6 hj1 hj2 hj3 hst2 hS0 hsqn;clear hsqn hS0 hst2 hj3 hj2 hj1
     go_upto_region 12 with fail
     refine Ao (rf12 ms sq) (.take 0 (.take 3 (.take 4 (.take 5 (.move 1 (.take 2 (.take 6 .done))))))) (by kernel_rfl) (by kernel_rfl) ?_ ?_
     ·exact HS0.out.keep (Keeps.drew _)
     intro wq hsw hkq
     repeat ((first|refine Ai rfl (by rfl) ?_|refine Af rfl (by rfl) ?_|(refine Ah (v:= ?_) rfl (by rfl) ?_ ?_;rotate_left;(· intro w' hSw;unfold rf12 at hSw;go_simp;(try with_reducible rfl));rotate_right));try simp only [aps])
     refine Ak rfl (fun K hK=> ?_)
     go_simp
     go_at_call 16
     ((with_reducible refine(Hst2.out wq hkq).mono ?_);rintro e we ⟨a1,e1,a2,e2,a3,e3,rfl,_,_,_,hke,_⟩;dsimp only)
     have hfi:∀W,(Instr.field 37 (.agg #[.int .i64 td',.int .i64 cy',.slice a1 j1 e1,.int .i64 cr',.int .i64 du',.slice a2 j2 e2,.slice a3 j3 e3,.int .i64 (sq+1)]) 5).run Tryz.prog W= .ok (.int .i64 (sq+1)) W:=fun _=>by kernel_rfl
     refine hK.out _ _ (by exact hsw.keep hke) ?_;clear hK K
     try simp only [aps]
     repeat ((first|refine Ai rfl (by rfl) ?_|refine Af rfl (by rfl) ?_|(refine Ah (v:= ?_) rfl (by rfl) ?_ ?_;rotate_left;(· intro w' hSw;unfold rf12 at hSw;go_simp;(try with_reducible rfl));rotate_right));try simp only [aps])
     refine Aw ?_;have hkz:=hkq.nt hke;clear hsw hkq hke hfi;have Hkz:=Lib.hid hkz;clear hkz
     go_wp2
     go_roundw
     case rel=>exact⟨i+1,A',by omega,rfl,(HLd.out.keep Hkz.out).less (fun k e=> .inl (.inl e)),Hsqn.out,Hrd.out.keeps Hkz.out (by simp)⟩
     case measure=>simp [intOf];omega
   ·have hzb:(z==0)=false:=beq_eq_false_iff_ne.2 hz0;have hzn:(z !=0)=true:=by simp [hz0]
    obtain⟨e1,e2,e3,e4⟩:=Hnoa.out hz0;have hAA:A'=A:=Hsame.out (fun h=>hz0 h.1);rw [hAA] at hLb;rw [e1,e2,e3,e4] at hans;obtain⟨k1,d1,k2,d2,k3,d3,k4,d4,hv,ha1,ha2,ha3,ha4⟩:=hans;have hv':v= .agg #[.int .i64 z,.int .i64 0,.int .i64 0,.int .i64 0,.int .i64 0,.slice k1 0 d1,.int .i64 0,.int .i64 0,.slice k2 0 d2,.slice k3 0 d3,.int .i64 0,.int .i64 0,.int .i64 0,.int .i64 0,.int .i64 0,.slice k4 0 d4,.int .i64 0,.int .i64 0,.int .i64 0,.bool false]:=hv;subst hv';have ha1:Reads wb 1 (.slice k1 0 d1) 0 []:=Reads.Bh ha1;have ha2:Reads wb 1 (.slice k2 0 d2) 0 []:=Reads.Bh ha2;have ha3:Reads wb 5 (.slice k3 0 d3) 0 []:=Reads.Bh ha3;have ha4:Reads wb 3 (.slice k4 0 d4) 0 []:=Reads.Bh ha4;clear hv e1 e2 e3 e4 hAA;have Hz0:=Lib.hid hz0;clear hz0;obtain⟨Ha1,Ha2,Ha3,Ha4⟩:=hid4 ha1 ha2 ha3 ha4;clear ha4 ha3 ha2 ha1;obtain⟨wc,hwc⟩:∃W,W=((wb).alloc (.cells #[.int .i64 0,.int .i64 0,.int .i64 0,.int .i64 0,.int .i64 0,.slice none 0 0,.int .i64 0,.int .i64 0,.slice none 0 0,.slice none 0 0,.int .i64 0,.int .i64 0,.int .i64 0,.int .i64 0,.int .i64 0,.slice none 0 0,.int .i64 0,.int .i64 0,.int .i64 0,.bool false] 44)).setRow (wb).heap.size #[.int .i64 z,.int .i64 0,.int .i64 0,.int .i64 0,.int .i64 0,.slice k1 0 d1,.int .i64 0,.int .i64 0,.slice k2 0 d2,.slice k3 0 d3,.int .i64 0,.int .i64 0,.int .i64 0,.int .i64 0,.int .i64 0,.slice k4 0 d4,.int .i64 0,.int .i64 0,.int .i64 0,.bool false]:=⟨_,rfl⟩;obtain⟨hLc,hbc,hkc⟩:=Live.box hLb hwc;obtain⟨mc,hmc⟩:∃b,b=(wb).heap.size:=⟨_,rfl⟩;rw [←hmc] at hLc hbc;have h1wc:(#[.int .i64 z,.int .i64 0,.int .i64 0,.int .i64 0,.int .i64 0,.slice k1 0 d1,.int .i64 0,.int .i64 0,.slice k2 0 d2,.slice k3 0 d3,.int .i64 0,.int .i64 0,.int .i64 0,.int .i64 0,.int .i64 0,.slice k4 0 d4,.int .i64 0,.int .i64 0,.int .i64 0,.bool false]:Array Value).all (·.oneCell')=true:=(one_ansL z 0 0 0 0 0 0 0 0 0 0 0 0 0 0 k1 k2 k3 k4 0 d1 0 d2 0 d3 0 d4 false);obtain⟨HLc,Hbc,Hkc,H1wc⟩:=hid4 hLc hbc hkc h1wc;clear h1wc hkc hbc hLc
    go_upto_region 11 with(refine wpList_store_row rfl 44 (.tmp 12) (.tmp 51) rfl (wb).heap.size #[.int .i64 z,.int .i64 0,.int .i64 0,.int .i64 0,.int .i64 0,.slice k1 0 d1,.int .i64 0,.int .i64 0,.slice k2 0 d2,.slice k3 0 d3,.int .i64 0,.int .i64 0,.int .i64 0,.int .i64 0,.int .i64 0,.slice k4 0 d4,.int .i64 0,.int .i64 0,.int .i64 0,.bool false] rfl rfl 44 #[.int .i64 0,.int .i64 0,.int .i64 0,.int .i64 0,.int .i64 0,.slice none 0 0,.int .i64 0,.int .i64 0,.slice none 0 0,.slice none 0 0,.int .i64 0,.int .i64 0,.int .i64 0,.int .i64 0,.int .i64 0,.slice none 0 0,.int .i64 0,.int .i64 0,.int .i64 0,.bool false] (heap_alloc_new wb _) Ar rfl H1wc.out ?_;rw [←hwc,←hmc];clear hwc hmc)
    have b0:=Aa Hbc.out 0;have hLd:=HLc.out;have hsd:=Ad Hsb.out Hkc.out (by simp);have hrd:=Hrb.out.keeps Hkc.out (by simp);have hz1:=Hz1.out.keep Hkc.out (by simp);have hz2:=Hz2.out.keep Hkc.out (by simp);have hz3:=Hz3.out.keep Hkc.out (by simp);have hz4:=Hz4.out.keep Hkc.out (by simp);have hz5:=Hz5.out.keep Hkc.out (by simp);have hz6:=Hz6.out.keep Hkc.out (by simp);clear Hz1 Hz2 Hz3 Hz4 Hz5 Hz6;obtain⟨Hz1,Hz2,Hz3,Hz4,Hz5,Hz6,HLd,Hsd,Hrd⟩:=hid9 hz1 hz2 hz3 hz4 hz5 hz6 hLd hsd hrd;clear hrd hsd hLd hz6 hz5 hz4 hz3 hz2 hz1
    go_upto_region 14 with fail
    clear b0;have hst2:=fun W (hW:Keeps (fun _=>False) wc W)=>live_st (HLd.out.keep hW) Htd.out Hcy.out Hsqe.out Hcr.out Hdu.out Hn1.out Hn2.out Hn3.out;have hev2:∀W,Keeps (fun _=>False) wc W→Calls Tryz.prog 28 #[(.pointer (some ⟨K,0,none⟩))] W (GivesEv W A.L):=fun W hW=>live_ev (HLd.out.keep hW);have hiss2:∀W,Keeps (fun _=>False) wc W→Calls Tryz.prog 21 #[(.pointer (some ⟨K,0,none⟩))] W (OwnPost W A.iss):=fun W hW=>live_iss (HLd.out.keep hW);have hadj2:∀W,Keeps (fun _=>False) wc W→Calls Tryz.prog 26 #[(.pointer (some ⟨K,0,none⟩))] W (AdjPost W A.adj):=fun W hW=>live_adj (HLd.out.keep hW) (by have:=Hsqb.out;omega);have hS0:rf14 ms td cy cr du sq (.slice q1 n1 c1) (.slice q2 n2 c2) (.slice q3 n3 c3) wc:=rf14.of Hsd.out;obtain⟨Hst2,Hev2,Hiss2,Hadj2,HS0⟩:=hid5 hst2 hev2 hiss2 hadj2 hS0;clear hS0 hadj2 hiss2 hev2 hst2
    go_upto_region 14 with fail
    refine Ao (rf14 ms td cy cr du sq (.slice q1 n1 c1) (.slice q2 n2 c2) (.slice q3 n3 c3)) (.take 0 (.take 2 (.move 1 (.move 3 (.take 4 (.take 5 (.take 6 (.take 8 (.move 7 (.move 9 (.take 10 (.take 11 (.take 12 (.take 13 (.take 15 (.move 14 (.move 16 (.take 17 (.take 18 (.take 19 (.take 20 (.take 22 (.move 21 (.move 23 (.take 24 (.take 25 .done)))))))))))))))))))))))))) (by kernel_rfl) (by kernel_rfl) ?_ ?_
    ·exact HS0.out.keep (Keeps.drew _)
    intro wq hsw hkq
    repeat ((first|refine Ai rfl (by rfl) ?_|refine Af rfl (by rfl) ?_|(refine Ah (v:= ?_) rfl (by rfl) ?_ ?_;rotate_left;(· intro w' hSw;unfold rf14 at hSw;go_simp;(try with_reducible rfl));rotate_right));try simp only [aps])
    refine Ak rfl (fun K hK=> ?_)
    go_simp
    go_at_call 16
    ((with_reducible refine(Hst2.out wq hkq).mono ?_);rintro e we ⟨a1,e1,a2,e2,a3,e3,rfl,hra,hrb,hrc,hke,_⟩;dsimp only)
    refine hK.out _ _ (by exact hsw.keep hke) ?_;clear hK K
    try simp only [aps]
    repeat ((first|refine Ai rfl (by rfl) ?_|refine Af rfl (by rfl) ?_|(refine Ah (v:= ?_) rfl (by rfl) ?_ ?_;rotate_left;(· intro w' hSw;unfold rf14 at hSw;go_simp;(try with_reducible rfl));rotate_right));try simp only [aps])
    refine Ak rfl (fun K hK=> ?_)
    go_simp
    go_at_call 29
    ((with_reducible refine((sameState_any td cy cr du sq A.s.p.bal A.s.R A.D n1 n2 n3 a1 a2 a3 q1 q2 q3 e1 e2 e3 c1 c2 c3 we Hn1.out Hn2.out Hn3.out Hnb.out (Reads.Bh hra) (Reads.Bh hrb) (Reads.Bh hrc) (Hz1.out.keep (hkq.nt hke) (by simp)).rd (Hz2.out.keep (hkq.nt hke) (by simp)).rd (Hz3.out.keep (hkq.nt hke) (by simp)).rd)).mono ?_);rintro e wf ⟨rfl,hkf⟩;dsimp only)
    refine hK.out _ _ (by exact(hsw.keep hke).keep hkf) ?_;clear hK K
    try simp only [aps]
    repeat ((first|refine Ai rfl (by rfl) ?_|refine Af rfl (by rfl) ?_|(refine Ah (v:= ?_) rfl (by rfl) ?_ ?_;rotate_left;(· intro w' hSw;unfold rf14 at hSw;go_simp;(try with_reducible rfl));rotate_right));try simp only [aps])
    have hk2:=(hkq.nt hke).nt hkf;have hs2:=(hsw.keep hke).keep hkf;clear hsw hkq hke hkf hra hrb hrc;refine Ak rfl (fun K hK=> ?_)
    go_simp
    go_at_call 28
    ((with_reducible refine(Hev2.out wf hk2).mono ?_);rintro e wg ⟨v7,rfl,r7,hkg,_⟩)
    rw [Hn4.out] at r7;obtain⟨q7,c7,rfl,_⟩:=id r7;dsimp only;refine hK.out _ _ (by exact hs2.keep hkg) ?_;clear hK K
    try simp only [aps]
    repeat ((first|refine Ai rfl (by rfl) ?_|refine Af rfl (by rfl) ?_|(refine Ah (v:= ?_) rfl (by rfl) ?_ ?_;rotate_left;(· intro w' hSw;unfold rf14 at hSw;go_simp;(try with_reducible rfl));rotate_right));try simp only [aps])
    refine Ak rfl (fun K hK=> ?_)
    go_simp
    go_at_call 30
    ((with_reducible refine((plainEv_same A.L (.slice q7 n4 c7) (.slice q4 n4 c4) wg (by rw [Hn4.out];exact r7) (by rw [Hn4.out];exact(Hz4.out.keep (hk2.nt hkg) (by simp)).rd) Hn4b.out)).mono ?_);rintro e wh ⟨rfl,hkh⟩;dsimp only)
    refine hK.out _ _ (by exact(hs2.keep hkg).keep hkh) ?_;clear hK K
    try simp only [aps]
    repeat ((first|refine Ai rfl (by rfl) ?_|refine Af rfl (by rfl) ?_|(refine Ah (v:= ?_) rfl (by rfl) ?_ ?_;rotate_left;(· intro w' hSw;unfold rf14 at hSw;go_simp;(try with_reducible rfl));rotate_right));try simp only [aps])
    have hk3:=(hk2.nt hkg).nt hkh;have hs3:=(hs2.keep hkg).keep hkh;clear hs2 hk2 hkg hkh r7;refine Ak rfl (fun K hK=> ?_)
    go_simp
    go_at_call 21
    ((with_reducible refine(Hiss2.out wh hk3).mono ?_);rintro e wi ⟨v8,Q2,rfl,hp8,hq8⟩)
    obtain⟨q8,m8,c8,rfl⟩:∃a m c,v8= .slice a m c:=by obtain⟨a,c,h,_⟩:=Aj hp8.row;exact⟨a,_,c,h⟩
    have hki:=hp8.fr.1;dsimp only;refine hK.out _ _ (by exact hs3.keep hki) ?_;clear hK K
    try simp only [aps]
    repeat ((first|refine Ai rfl (by rfl) ?_|refine Af rfl (by rfl) ?_|(refine Ah (v:= ?_) rfl (by rfl) ?_ ?_;rotate_left;(· intro w' hSw;unfold rf14 at hSw;go_simp;(try with_reducible rfl));rotate_right));try simp only [aps])
    refine Ak rfl (fun K hK=> ?_)
    go_simp
    go_at_call 20
    ((with_reducible refine((sameStmL_any Q2 Q (.slice q8 m8 c8) (.slice q5 n6 c5) wi ((YI.of hp8 (Nat.le_refl _)).pages hq8 (live_ok HLd.out)) ((Hz5.out.keep (hk3.nt hki) (by simp)).pages Hq.out (live_ok HLd.out)) (hq8.trans Hq.out.symm))).mono ?_);rintro e wj ⟨rfl,hkj⟩;dsimp only)
    refine hK.out _ _ (by exact(hs3.keep hki).keep hkj) ?_;clear hK K
    try simp only [aps]
    repeat ((first|refine Ai rfl (by rfl) ?_|refine Af rfl (by rfl) ?_|(refine Ah (v:= ?_) rfl (by rfl) ?_ ?_;rotate_left;(· intro w' hSw;unfold rf14 at hSw;go_simp;(try with_reducible rfl));rotate_right));try simp only [aps])
    have hk4:=(hk3.nt hki).nt hkj;have hs4:=(hs3.keep hki).keep hkj;clear hs3 hk3 hki hkj hp8 hq8;refine Ak rfl (fun K hK=> ?_)
    go_simp
    go_at_call 26
    ((with_reducible refine(Hadj2.out wj hk4).mono ?_);rintro e wk ⟨v9,rfl,r9,hf9⟩)
    rw [Hn5.out] at r9;obtain⟨q9,c9,rfl,_,_⟩:=Aj r9;have hkk:=hf9.1;dsimp only;refine hK.out _ _ (by exact hs4.keep hkk) ?_;clear hK K
    try simp only [aps]
    repeat ((first|refine Ai rfl (by rfl) ?_|refine Af rfl (by rfl) ?_|(refine Ah (v:= ?_) rfl (by rfl) ?_ ?_;rotate_left;(· intro w' hSw;unfold rf14 at hSw;go_simp;(try with_reducible rfl));rotate_right));try simp only [aps])
    refine Ak rfl (fun K hK=> ?_)
    go_simp
    go_at_call 27
    ((with_reducible refine((plainAdj_same A.adj (.slice q9 n5 c9) (.slice q6 n5 c6) wk (by rw [Hn5.out];exact Reads.Bh r9) (by rw [Hn5.out];exact(Hz6.out.keep (hk4.nt hkk) (by simp)).rd) Hn5b.out)).mono ?_);rintro e wl ⟨rfl,hkl⟩;dsimp only)
    refine hK.out _ _ (by exact(hs4.keep hkk).keep hkl) ?_;clear hK K
    try simp only [aps]
    repeat ((first|refine Ai rfl (by rfl) ?_|refine Af rfl (by rfl) ?_|(refine Ah (v:= ?_) rfl (by rfl) ?_ ?_;rotate_left;(· intro w' hSw;unfold rf14 at hSw;go_simp;(try with_reducible rfl));rotate_right));try simp only [aps])
    refine Aw ?_;have hkz:=(hk4.nt hkk).nt hkl;clear hs4 hk4 hkk hkl r9 hf9;have Hkz:=Lib.hid hkz;clear hkz
    go_upto_region 16 with fail
    have hbz:=Ad Hbc.out Hkz.out (by simp);have b0:=Aa hbz 0;have bl:=lt_of_block hbz;have hsn:=sameAns_nil z k1 k2 k3 k4 d1 d2 d3 d4 wl (Ha1.out.keeps (Hkc.out.nt Hkz.out) (by simp)) (Ha2.out.keeps (Hkc.out.nt Hkz.out) (by simp)) (Ha3.out.keeps (Hkc.out.nt Hkz.out) (by simp)) (Ha4.out.keeps (Hkc.out.nt Hkz.out) (by simp));obtain⟨Hsn,Hbz⟩:=hid2 hsn hbz;clear hbz hsn
    go_wp2_with (refine wpList_load_row_g (o:=⟨some 99,_,_,_,_,_⟩) (by rfl) 44 (.tmp 12) rfl mc rfl 44 #[.int .i64 z,.int .i64 0,.int .i64 0,.int .i64 0,.int .i64 0,.slice k1 0 d1,.int .i64 0,.int .i64 0,.slice k2 0 d2,.slice k3 0 d3,.int .i64 0,.int .i64 0,.int .i64 0,.int .i64 0,.int .i64 0,.slice k4 0 d4,.int .i64 0,.int .i64 0,.int .i64 0,.bool false] _ _ Hbz.out Tryz.underlying44 rfl Ar ?_)
    refine Hsn.out.mono ?_;rintro e wm ⟨rfl,hkm⟩;clear b0 bl;have Hkm:=Lib.hid hkm;clear hkm
    go_wp2
    go_roundw
    case rel=>exact⟨i+1,A,by omega,rfl,((HLd.out.keep Hkz.out).keep Hkm.out).less (fun k e=> .inl (.inl e)),by have:=Hsqle.out;omega,(Hrd.out.keeps Hkz.out (by simp)).keeps Hkm.out (by simp)⟩
    case measure=>simp [intOf];omega
  ·have hge:¬((i:Int)<(M:Int)):=by omega
   have hkp:=hL.kp;clear hrr;obtain⟨HL,Hkp⟩:=hid2 hL hkp;clear hkp hL
   go_wp2
   go_ret;exact⟨rfl,Hkp.out.below (by simp) (Nat.le_refl _)⟩
end Go.Proofs.YthffbjldpfionaaGreat
namespace Go.Proofs.YthffbjldpfionaaGreat.accountRefuses
open Go.ChangeShapes Go.WideShapes Go.ChangeAt Go.RowKit Go.Deep
set_option maxRecDepth 100000
theorem lifted(os:Os)(started:os.Started)(H:Type)(enc:TypeId×Value→H):
  ReturnsInHanded {} Tryz.checked os 10 .any (Rows.accountRefusesSpec.pre6 enc Tryz.prog Tryz.f10 Rows.accountRefusesRow.domain false) (Rows.accountRefusesSpec.post enc Tryz.prog Tryz.f10 false true false false):=by
 refine returnsInHanded_of_change (C:=Tryz.checked) own started (by kernel_rfl) Tryz.func10
  (ChangeSpec.witness6 (enc:=enc) (C:=Tryz.checked) false ⟨#[], #[.agg #[.int .i64 0,.slice none 0 0,.int .i64 0,.int .i64 0,.int .i64 0,.int .i64 0,.int .i64 0],.slice none 0 0], []⟩ 8 (by kernel_rfl) (by kernel_rfl) (by kernel_rfl) (by kernel_rfl)) ?_
 intro W base args ds gs before hval0 hW hcnd _;have hval:∀(j:Nat) t v,Tryz.f10.params[j]?=some t→args[j]?=some v→Value.okWide Tryz.prog W .any base t v:=hval0;have hW':=hW;obtain⟨p,q,hA0,hV,rfl,hfz,hnd⟩:=hW;have hA:DataW.TrodAll enc Tryz.prog W 0 (fun _=>true) true Tryz.f10.params.toList args.toList ds p:=hA0;rw [Tryz.params10] at hA hval;obtain⟨v0,vs0,d0,ds0,p0,q0,hargs,rfl,rfl,h0,r0⟩:=trodAll_cons hA;obtain⟨v1,vs1,d1,ds1,p1,q1,rfl,rfl,rfl,h1,r1⟩:=trodAll_cons r0;obtain⟨rfl,rfl,rfl⟩:=trodAll_nil r1;obtain rfl:args= #[v0,v1]:=by cases args;simp_all
 obtain⟨rfl,rfl⟩:=trodVars_none hV;obtain⟨cs0,rfl,hsz0⟩:=okWide_struct Tryz.underlying29 (hval 0 29 v0 rfl rfl);have k0:=h0;have lt0:∀x∈p0,x.block<W.heap.size:=by obtain⟨m,hm⟩:=k0;exact DataW.trod_lt m _ _ _ hm
 obtain⟨a0,ad0,cap0,e0,hr0,hm0⟩:∃(a:Tm) (ad:Option Addr) (cap:Nat),(Value.agg cs0).cells.toList=Tm.list a ad cap∧Reads W 2 (.slice ad a.trs.length cap) a.trs.length (a.trs.flatMap Tn.cells)∧a.trs.length≤maxLen:=by obtain⟨fuel,hf⟩:=h0;exact open_Tm _ _ _ hf
 have f0:cs0=(Tm.list a0 ad0 cap0).toArray:=by rw [←e0];simp [Value.cells]
 subst f0;obtain⟨ad1,len1,cap1,rfl⟩:=okWide_slice Tryz.underlying63 (hval 1 63 v1 rfl rfl);have k1:=h1;have lt1:∀x∈p1,x.block<W.heap.size:=by obtain⟨m,hm⟩:=k1;exact DataW.trod_lt m _ _ _ hm
 obtain⟨L1,e1,hr1,hp1,hm1⟩:∃L:List Cmd,L.length=len1∧Reads W 5 (.slice ad1 len1 cap1) L.length (L.flatMap Cmd.cells)∧(∀a∈L,a.wf)∧L.length≤maxLen:=by
  obtain⟨fuel,hf⟩:=h1;exact open_reads (f:=Cmd.cells) (size:=5) Cmd.Am (by decide) Tryz.underlying63 (by kernel_rfl) (fun n cs d hd=>open_Cmd n cs d hd) hf
 subst e1;clear hA0 hval0;refine(accountRefuses_walk W a0 ad0 cap0 hr0 hm0 ad1 cap1 L1 hr1 hp1 hm1).mono fun e W' ⟨he,bel⟩=> ?_;subst he;exact⟨_,rfl,_,_,_, [],_, [],hW',trodAll_mk1 (shut_bool Tryz.underlying4 _),(trodAll_cons_mk (Below.trod laidOut (by kernel_rfl) (of_decide_eq_true (by kernel_rfl)) k0 bel lt0) (trodAll_cons_mk (Below.trod laidOut (by kernel_rfl) (of_decide_eq_true (by kernel_rfl)) k1 bel lt1) trodAll_mk0)),rfl,bel.frame _,fun h=>by cases h⟩
theorem over:Rows.accountRefusesRow.holds Tryz.pinned (OpenSpec.ofChange Rows.accountRefusesSpec):=
 OpenClaim.holds_of_wide 10 Tryz.f10 rfl rfl rfl rfl rfl rfl rfl ⟨rfl,rfl,rfl,rfl,rfl⟩ rfl rfl rfl rfl rfl (by kernel_rfl) Tryz.func10 (by kernel_rfl)
  (of_decide_eq_true (by kernel_rfl)) (by unfold Func.isWrapper;first|(rw [if_pos (by decide+kernel)];kernel_rfl)|(rw [if_neg (by decide+kernel)];exact⟨rfl,rfl⟩))
  (fun os started H enc _=>lifted os started H enc)
theorem proved:Rows.AccountRefusesSaid:=over
#print axioms proved
end Go.Proofs.YthffbjldpfionaaGreat.accountRefuses
