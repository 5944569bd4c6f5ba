/- Part 1. -/
import Derived.Test.YthffbjldpfionaaGreatC11
namespace Go.Proofs.YthffbjldpfionaaGreat
open Go.RowKit
theorem jY4{P:Prop}(h:P:=by
 go_roundw
 case rel=>exact⟨k+1,by omega,by go_num,(Hkp.out.trans ((Keeps.drew _).trans (Hk2.out.mono (by simp))))⟩
 case measure=>simp [intOf];omega):P:=h
theorem jY10{P:Prop}(h:P:=by
 go_wp2
 go_ret
 exact⟨rfl,Hkp.out⟩):P:=h
theorem jY6{P:Prop}(h:P:=by
 go_ret
 exact⟨rfl,((Keeps.alloc _ _).trans (Keeps.alloc _ _)).trans (Hk1.out.mono (by simp))⟩):P:=h
theorem jY8{P:Prop}(h:P:=by
 exact⟨h1,by unfold Ac.tc;rw [h1];simp,by unfold Ac.tick;rw [h1];simp⟩):P:=h
theorem jY1{P:Prop}(h:P:=by
 clear hd
 have hc:=te_arg (a:=a) (d:=d) (by omega)
 have hb0:=heap_alloc_new w (.cells #[.int .i64 0,.int .i64 0,.int .i64 0,.int .i64 0,.int .i64 0,.slice none 0 0,.int .i64 0,.int .i64 0,.slice none 0 0,.slice none 0 0,.int .i64 0,.int .i64 0,.int .i64 0,.int .i64 0,.int .i64 0,.slice none 0 0,.int .i64 0,.int .i64 0,.int .i64 0,.bool false] 44)
 have hk0:Keeps (fun _=>False) w (w.alloc (.cells #[.int .i64 0,.int .i64 0,.int .i64 0,.int .i64 0,.int .i64 0,.slice none 0 0,.int .i64 0,.int .i64 0,.slice none 0 0,.slice none 0 0,.int .i64 0,.int .i64 0,.int .i64 0,.int .i64 0,.int .i64 0,.slice none 0 0,.int .i64 0,.int .i64 0,.int .i64 0,.bool false] 44)):=Keeps.alloc _ _
 obtain⟨H,Hb0,Hk0,Hc⟩:=hid4 h hb0 hk0 hc;clear hc hk0 hb0 h
 go_enter Tryz.func39,Tryz.ntmps39
 go_wp2_with fail
 refine(Cb 1 _).mono ?_
 rintro e w1 ⟨rfl,hk1⟩
 have hb1:=Ad Hb0.out hk1 (by simp)
 have hk01:=Hk0.out.nt hk1
 clear hk1
 obtain⟨Hb1,Hk01⟩:=hid2 hb1 hk01;clear hk01 hb1
 obtain⟨hput1,hput2⟩:=putRow (V:= #[.int .i64 1,.int .i64 0,.int .i64 0,.int .i64 0,.int .i64 0,.slice none 0 0,.int .i64 0,.int .i64 0,.slice none 0 0,.slice none 0 0,.int .i64 0,.int .i64 0,.int .i64 0,.int .i64 0,.int .i64 0,.slice none 0 0,.int .i64 0,.int .i64 0,.int .i64 0,.bool false]) Hb1.out Hk01.out (Nat.le_refl _)
 obtain⟨Hput1,Hput2⟩:=hid2 hput1 hput2;clear hput2 hput1
 go_wp2_with (refine wpList_store_row rfl 44 (.tmp 4) (.tmp 18) rfl w.heap.size #[.int .i64 1,.int .i64 0,.int .i64 0,.int .i64 0,.int .i64 0,.slice none 0 0,.int .i64 0,.int .i64 0,.slice none 0 0,.slice none 0 0,.int .i64 0,.int .i64 0,.int .i64 0,.int .i64 0,.int .i64 0,.slice none 0 0,.int .i64 0,.int .i64 0,.int .i64 0,.bool false] rfl rfl 44 #[.int .i64 0,.int .i64 0,.int .i64 0,.int .i64 0,.int .i64 0,.slice none 0 0,.int .i64 0,.int .i64 0,.slice none 0 0,.slice none 0 0,.int .i64 0,.int .i64 0,.int .i64 0,.int .i64 0,.int .i64 0,.slice none 0 0,.int .i64 0,.int .i64 0,.int .i64 0,.bool false] Hb1.out Ar rfl (Br 1 0 0) ?_)
 exact bodyPost_ret (results_cell_row rfl _ _ w.heap.size 44 #[.int .i64 1,.int .i64 0,.int .i64 0,.int .i64 0,.int .i64 0,.slice none 0 0,.int .i64 0,.int .i64 0,.slice none 0 0,.slice none 0 0,.int .i64 0,.int .i64 0,.int .i64 0,.int .i64 0,.int .i64 0,.slice none 0 0,.int .i64 0,.int .i64 0,.int .i64 0,.bool false] _ _ rfl Hput1.out Tryz.underlying44 rfl Ar) rfl ⟨by rw [Hc.out.1,Hc.out.2.1],by rw [Hc.out.2.2];exact AcPost.same H.out Hput2.out⟩):P:=h
theorem jY2{P:Prop}(h:P:=by
 have hSz:=HSk.out _ hk4z
 obtain⟨Hrel,Hbz,Hkz,Hk4z,HSz,Hz8⟩:=hid6 hrel hbz hkz hk4z hSz hz8;clear hz8 hSz hk4z hkz hbz hrel
 repeat ((first|refine Ai rfl (by rfl) ?_|refine Af rfl (by rfl) ?_|(refine Ah (v:= ?_) rfl (by rfl) ?_ ?_;rotate_left;(· intro w' hSw;unfold acT9 tbS at hSw;go_simp;(try with_reducible rfl));rotate_right));try simp only [aps])
 refine Ak rfl (fun K hK=> ?_)
 go_simp
 refine hK.out _ _ (by exact HSz.out) ?_
 clear hK K
 try simp only [aps]
 repeat ((first|refine Ai rfl (by rfl) ?_|refine Af rfl (by rfl) ?_|(refine Ah (v:= ?_) rfl (by rfl) ?_ ?_;rotate_left;(· intro w' hSw;unfold acT9 tbS at hSw;go_simp;(try with_reducible rfl));rotate_right));try simp only [aps])
 refine Aw ?_
 clear z0 z1 z2' zf0 zf1 zf2 hlz
 go_wp2_with fail
 go_meet
 exact Hrel.out):P:=h
theorem jY7{P:Prop}(h:P:=by
 have e':b=B:=e
 rcases hvi14 b hb with h1|h1
 ·exact HA3.out.si b h1 (.inl e')
 ·omega):P:=h
theorem jY3{P:Prop}(h:P:=by
 have hall:L.any (lateQ td)=false:=by
  rcases hb:L.any (lateQ td) with _|_
  ·rfl
  ·obtain⟨x,hx,hq⟩:=List.any_eq_true.1 hb
   have:=(hL x hx).2
   simp [lateQ] at hq
   omega
 unfold repErr
 rw [if_pos hz,if_pos (evsErr_all (fun x hx=>(hL x hx).1)),if_neg (by omega),if_neg (by omega),if_neg (by rw [ho];simp),hall]
 rfl):P:=h
theorem jY9{P:Prop}(h:P:=by
 unfold lastE
 rw [if_neg (by omega),if_neg (by omega),if_neg (by omega)]):P:=h
theorem lastF_yes{fr cd:Int}(h0: -135140≤fr)(h1:fr≤2932896)(c0:1≤cd)(c1:cd≤28)(hn2:lastF fr cd+1≤2932896):dD (lastF fr cd+1)=cd:=by
 have h:=date_is h0 h1
 have hm:=(Co (y:=dY fr) (m:=dM fr) h.m0 h.m1).2
 have hd0:=h.d0;have hd1:=h.d1
 unfold lastF at hn2⊢
 split
 ·rename_i hlt
  rw [if_pos hlt] at hn2
  obtain⟨y',m',h2⟩:=h.over cd c0 c1
  rw [show fr-dD fr+cd-1+mlen (dY fr) (dM fr)+1=fr-dD fr+mlen (dY fr) (dM fr)+cd by omega]
  exact(h2.found (by omega)).2.2
 ·rename_i hlt
  rw [if_neg hlt] at hn2
  have h2:=h.same (cd-dD fr) (by omega) (by omega)
  rw [show fr-dD fr+cd-1+1=fr+(cd-dD fr) by omega]
  rw [(h2.found (by omega)).2.2];omega
end Go.Proofs.YthffbjldpfionaaGreat
namespace Go.Proofs.YthffbjldpfionaaGreat
open Go.RowKit
instance:CoeFun Fx (fun _=>Nat→Prop):=⟨Fx.X⟩
end Go.Proofs.YthffbjldpfionaaGreat
namespace Go.Proofs.YthffbjldpfionaaGreat
open Go.RowKit
structure OwnP(w W:World)(v:Value)(L:List SV):Prop where
 row:W.ownsRow 0 42 9 v L.length (L.flatMap SV.cells)
 ln:∀x∈L,W.ownsRow 0 102 3 x.v x.s.lines.length (x.s.lines.flatMap Ln.cells)
 fr:Fresh w W v
 lf:∀x∈L,∀b,x.v.ownBlock=some b→w.heap.size≤b
theorem OwnP.keep{w W W':World}{v:Value}{L:List SV}(h:OwnP w W v L)(hk:Keeps (fun _=>False) W W'):OwnP w W' v L:=⟨hk.row h.row (by simp),fun x hx=>hk.row (h.ln x hx) (by simp),h.fr.keep hk,h.lf⟩
theorem OwnP.app{w W1 w6:World}{v v6:Value}{L:List SV}{x:SV}{m:Nat}{xs:List Value}(h:OwnP w W1 v L)(hk:Keeps (fun j=>v.ownBlock=some j∨W1.heap.size≤j) W1 w6)(hm:m=L.length+1)(hx:xs=L.flatMap SV.cells++x.cells)(hr:w6.ownsRow 0 42 9 v6 m xs)
  (hl:w6.ownsRow 0 102 3 x.v x.s.lines.length (x.s.lines.flatMap Ln.cells)) (hlf:∀b,x.v.ownBlock=some b→w.heap.size≤b) (hf:v6.ownBlock=v.ownBlock∨∃g,v6.ownBlock=some g∧W1.heap.size≤g):OwnP w w6 v6 (L++ [x]):=by
 have hsz:=h.fr.1.size
 subst hm hx
 refine⟨by simpa using hr,fun y hy=> ?_,⟨h.fr.1.trans (hk.mono fun i _ e=> .inr ?_),fun g hg=> ?_⟩,fun y hy b hb=> ?_⟩
 ·rcases List.mem_append.1 hy with hy|hy
  ·refine hk.row (h.ln y hy) fun g hg e=> ?_
   rcases e with e|e
   ·exact rows_ne (h.ln y hy) h.row (by decide) hg e
   ·have:=own_ltA (h.ln y hy) hg;omega
  ·obtain rfl:y=x:=by simpa using hy
   exact hl
 ·rcases e with e|e
  ·exact h.fr.2 i e
  ·omega
 ·rcases hf with e|⟨g',e,h'⟩
  ·exact h.fr.2 g (by rw [←e];exact hg)
  ·rw [e] at hg;simp only [Option.some.injEq] at hg;omega
 ·rcases List.mem_append.1 hy with hy|hy
  ·exact h.lf y hy b hb
  ·obtain rfl:y=x:=by simpa using hy
   exact hlf b hb
def OwnPost(w:World)(M:List Stm)(e:Ending)(w':World):Prop:=∃v Q,e= .returned v∧OwnP w w' v Q∧Q.map SV.s=M
set_option maxRecDepth 100000
set_option maxHeartbeats 3200000
theorem accOwn_any(ad:Option Addr)(cap n:Nat)(P:List SV)(w:World)(h:StmsR w ad n cap P)(hn:n≤1000):Calls Tryz.prog 46 #[.slice ad n cap] w (OwnPost w (P.map SV.s)):=by
 obtain⟨i0,hi,hi0,hi1,hi2⟩:=info_parts info_tStm
 obtain⟨H,Hi,Hi0,Hi1,Hi2⟩:=hid5 h hi hi0 hi1 hi2;clear hi2 hi1 hi0 hi h
 go_enter Tryz.func46,Tryz.ntmps46
 go_wp2_with fail
 go_loopw [3,8] (fun v c wr=>∃(k:Nat) (adv:Option Addr) (cv:Nat) (Q:List SV),k≤n∧c= .int .i64 (k:Nat)∧v= .slice adv k cv∧OwnP w wr (.slice adv k cv) Q∧Q.map SV.s=(P.map SV.s).take k) (fun _ c _=>n-(intOf c).toNat)
 case atStart=>exact⟨0,none,0, [],Nat.zero_le _,rfl,rfl,⟨World.ownsRow_nil _ _ _ _,by simp,⟨Keeps.refl _ _,by simp [Value.ownBlock]⟩,by simp⟩,rfl⟩
 case round=>
  obtain⟨k,adv,cv,Q,hkn,rfl,rfl,hp,hq⟩:=hrel
  have hQk:Q.length=k:=by have:=congrArg List.length hq;simp at this;rw [this,H.out.n];omega
  by_cases hlt:k<n
  ·have hltI:(k:Int)<(n:Int):=by omega
   obtain⟨x,hx⟩:=Av (L:=P) (k:=k) (by rw [H.out.n];exact hlt)
   have hk0:=hp.fr.1
   have hrd:=H.out.row.keeps hk0 (by simp)
   obtain⟨g,o,c,he,hc⟩:=hrd.elem SV.Am hx (by decide)
   simp only [Value.slice.injEq,true_and] at he
   obtain⟨rfl,rfl⟩:=he
   have x0:wr.cell? ⟨g,o+k*9,none⟩=some (.int .i64 x.s.cycle):=hc 0 (by decide)
   have x1:wr.cell? ⟨g,o+k*9+1,none⟩=some (.int .i64 x.s.fr):=hc 1 (by decide)
   have x2:wr.cell? ⟨g,o+k*9+2,none⟩=some (.int .i64 x.s.te):=hc 2 (by decide)
   have x3:wr.cell? ⟨g,o+k*9+3,none⟩=some (.int .i64 x.s.due):=hc 3 (by decide)
   have x4:wr.cell? ⟨g,o+k*9+4,none⟩=some x.v:=hc 4 (by decide)
   have x5:wr.cell? ⟨g,o+k*9+5,none⟩=some (.int .i64 x.s.total):=hc 5 (by decide)
   have x6:wr.cell? ⟨g,o+k*9+6,none⟩=some (.int .i64 x.s.credit):=hc 6 (by decide)
   have x7:wr.cell? ⟨g,o+k*9+7,none⟩=some (.int .i64 x.s.min):=hc 7 (by decide)
   have x8:wr.cell? ⟨g,o+k*9+8,none⟩=some (.bool x.s.grace):=hc 8 (by decide)
   have hgl:=Ag x0
   clear hc
   have hxl:=(H.out.ln x (List.mem_of_getElem? hx)).keeps hk0 (by simp)
   have hxll:=H.out.ll x (List.mem_of_getElem? hx)
   have hq1:(P.map SV.s).take (k+1)=(P.map SV.s).take k++ [x.s]:=take_snoc' (by rw [List.getElem?_map,hx];rfl)
   obtain⟨⟨cy,fr,te,du,tot,cre,mi,gr,X⟩,axd,axc⟩:=x
   simp only [SV.v] at x0 x1 x2 x3 x4 x5 x6 x7 x8 hxl hxll hq1
   obtain⟨m,hm⟩:∃m,X.length=m:=⟨_,rfl⟩
   rw [hm] at hxl hxll x4
   have hcl:=fun W (hW:Keeps (fun _=>False) wr W)=>cloneLine_any W (.slice axd m axc) m (X.flatMap Ln.cells) (hxl.keeps hW (by simp)) (fun u hu=>Ln.one _ u hu) (by omega)
   clear hrd
   have hlt0:∀b,(Value.slice adv k cv).ownBlock=some b→b<wr.heap.size:=fun b hb=>own_ltA hp.row hb
   have hrowk:=hp.row
   rw [hQk] at hrowk
   obtain⟨Hp,Hq,HQk,Hk0,Hxl,Hq1,Hm,Hcl,Hx⟩:=hid9 hp hq hQk hk0 hxl hq1 hm hcl hx;clear hx hcl hm hq1 hxl hk0 hQk hq hp;obtain⟨Hlt0,Hrowk⟩:=hid2 hlt0 hrowk;clear hrowk hlt0
   go_wp2_with fail
   refine(Hcl.out _ (Keeps.alloc _ _)).mono ?_
   rintro e w1 ⟨v1,rfl,hrow1,hk1,hnew1⟩
   obtain⟨a1,c1,rfl,_,_⟩:=Aj hrow1
   have hbx:=Ad (heap_alloc_new wr (.cells #[.int .i64 cy,.int .i64 fr,.int .i64 te,.int .i64 du,.slice axd m axc,.int .i64 tot,.int .i64 cre,.int .i64 mi,.bool gr] 42)) hk1 (by simp)
   have b0:=Aa hbx 0
   have b1:=Aa hbx 1
   have b2:=Aa hbx 2
   have b3:=Aa hbx 3
   have b4:=Aa hbx 4
   have b5:=Aa hbx 5
   have b6:=Aa hbx 6
   have b7:=Aa hbx 7
   have b8:=Aa hbx 8
   have f4:=Ab hbx 4
   have bl:=lt_of_block hbx
   have hk2:Keeps (fun i=>i=wr.heap.size) w1 (w1.setCell ⟨wr.heap.size,4,none⟩ (.slice a1 m c1)):=Keeps.setCell _ _ _ rfl
   have hk12:Keeps (fun j=>wr.heap.size≤j) wr (w1.setCell ⟨wr.heap.size,4,none⟩ (.slice a1 m c1)):=((Keeps.alloc wr _).trans (hk1.mono (by simp))).trans (hk2.mono fun i _ e=> .inr (by have e':i=wr.heap.size:=e;omega))
   have hrow2:=hk12.row Hrowk.out (fun b hb e=>by have:=Hlt0.out b hb;have e':wr.heap.size≤b:=e;omega)
   have hl2:=hk2.row hrow1 (fun b hb e=>by have:=hnew1 b hb;simp at this;have e':b=wr.heap.size:=e;omega)
   obtain⟨W2,hW2⟩:∃x,x=w1.setCell ⟨wr.heap.size,4,none⟩ (.slice a1 m c1):=⟨_,rfl⟩
   have hrow2':=hrow2
   rw [←hW2] at hk12 hl2 hrow2
   obtain⟨Hrow1,Hk1,Hnew1,Hbx,Hk2,Hk12,Hl2,Hrow2⟩:=hid8 hrow1 hk1 hnew1 hbx hk2 hk12 hl2 hrow2;clear hrow2 hl2 hk12 hk2 hbx hnew1 hk1 hrow1
   go_wp2_with (at_builtin;refine Ba rfl (.tmp 16) (.tmp 18) 58 rfl 0 42 i0 _ 9 88 Tryz.underlying58 Hi.out Hi0.out Hi1.out Hi2.out rfl (by decide) (.slice adv k cv) k _ rfl (hrow2'.alloc _) _ 1 _ rfl (Reads.litAt _ _ _ 9 1 _ (by first|rfl|simp) rfl) (by simp [Value.oneCell']) (by unfold maxLen;omega) (by omega) (Nat.zero_le _) ?_)
   intro v6 w6 hrow6 hk6 hf6
   obtain⟨a6,c6,rfl,_,_⟩:=Aj hrow6
   rw [←hW2] at hk6
   have hsz1:=Hk1.out.size
   simp only [World.size_alloc] at hsz1
   have hsz12:=Hk12.out.size
   have hkA:Keeps (fun j=>(Value.slice adv k cv).ownBlock=some j∨wr.heap.size≤j) wr w6:=((Hk12.out.mono fun _ _ e=> .inr e).trans ((Keeps.alloc (S:=fun _=>False) W2 _).mono (by simp))).trans (hk6.mono fun i _ e=> .inl (.inl e))
   have hl6:=hk6.row (Hl2.out.alloc _) (fun b hb e=>by have h1:=Hlt0.out b e;have h2:=Hnew1.out b hb;simp at h2;omega)
   have hlf:∀b,(Value.slice a1 m c1).ownBlock=some b→w.heap.size≤b:=fun b hb=>by have h2:=Hnew1.out b hb;simp at h2;have:=Hk0.out.size;omega
   have hp6:OwnP w w6 (.slice a6 (k+1) c6) (Q++ [⟨⟨cy,fr,te,du,tot,cre,mi,gr,X⟩,a1,c1⟩]):=Hp.out.app hkA (m:=k+1) (xs:=_) (by rw [HQk.out]) (by simp [SV.cells,SV.v,Hm.out]) hrow6 (by rw [SV.v,Hm.out];exact hl6) (by rw [SV.v,Hm.out];exact hlf) (hf6.imp id fun⟨g,h1,h2⟩=>⟨g,h1,by omega⟩)
   have hq6:(Q++ [(⟨⟨cy,fr,te,du,tot,cre,mi,gr,X⟩,a1,c1⟩:SV)]).map SV.s=(P.map SV.s).take (k+1):=by rw [Hq1.out,List.map_append,Hq.out];rfl
   clear hrow6 hk6 hf6 hkA hl6 hlf hsz12 hsz1 hrow2' b0 b1 b2 b3 b4 b5 b6 b7 b8 f4 bl x0 x1 x2 x3 x4 x5 x6 x7 x8
   obtain⟨Hp6,Hq6,HW2⟩:=hid3 hp6 hq6 hW2;clear hW2 hq6 hp6
   go_wp2_with fail
   go_roundw
   case rel=>exact⟨k+1,a6,c6,_,by omega,by go_num,by go_num,Hp6.out,Hq6.out⟩
   case measure=>simp [intOf];omega
  ·obtain rfl:k=n:=by omega
   rw [List.take_of_length_le (by rw [List.length_map,H.out.n];exact Nat.le_refl _)] at hq
   obtain⟨Hp,Hq,HQk⟩:=hid3 hp hq hQk;clear hQk hq hp
   go_wp2_with fail
   go_ret
   exact⟨_,Q,rfl,Hp.out,Hq.out⟩
theorem AcAt.stmI{w:World}{B:Nat}{x:AcV}{a:Ac}(h:AcAt w B x a):∃ad c,x.vi= .slice ad x.I.length c∧StmsR w ad x.I.length c x.I∧x.I.length≤1000:=by
 have hn:=h.ok.nums
 have hl:x.I.length=a.iss.length:=by rw [←h.is,List.length_map]
 obtain⟨ad,c,h1,h2⟩:=StmsR.ofP h.iss h.iln fun y hy=>by
  have:y.s∈a.iss:=by rw [←h.is];exact List.mem_map.2 ⟨y,hy,rfl⟩
  have h3:=h.ok.ill _ this
  have:=hn.n8
  omega
 exact⟨ad,c,h1,h2,by rw [hl,h.ok.il];have:=hn.o3;omega⟩
set_option maxHeartbeats 800000
theorem accIssued_any(B:Nat)(x:AcV)(a:Ac)(w:World)(h:AcAt w B x a):Calls Tryz.prog 21 #[(.pointer (some ⟨B,0,none⟩))] w (OwnPost w a.iss):=by
 obtain⟨ad,c,hv,hs,hl⟩:=h.stmI
 have hown:=fun W (hW:Keeps (fun _=>False) w W)=>accOwn_any ad c x.I.length x.I W (hs.keep hW) hl
 rw [h.is] at hown
 obtain⟨n,hn⟩:∃n,x.I.length=n:=⟨_,rfl⟩
 rw [hn] at hown hv
 have c16:w.cell? ⟨B,16,none⟩=some x.vi:=Aa h.blk 16
 have hbl:=lt_of_block h.blk
 rw [hv] at c16
 clear hl
 obtain⟨H,Hv,Hs,Hown,Hn⟩:=hid5 h hv hs hown hn;clear hn hown hs hv h
 go_enter Tryz.func21,Tryz.ntmps21
 go_wp2_with fail
 refine(Hown.out _ (Keeps.refl _ _)).mono ?_
 rintro e w1 ⟨v,Q,rfl,hp,hq⟩
 obtain⟨Hp,Hq⟩:=hid2 hp hq;clear hq hp
 go_wp2_with fail
 go_ret
 exact⟨_,Q,rfl,Hp.out,Hq.out⟩
def tF:Tm:=⟨1000000000000000,1,20,25,20,10957, [⟨1000000,true⟩,⟨2000000,false⟩]⟩
def st2(i:Nat)(day a b c d r1 r2:Int)(x1 x2 y1 y2:List Int)(out:List Stm):St:=⟨i,day,⟨[a,b],c,d⟩, [r1,r2], [x1,x2], [y1,y2],out⟩
theorem evR_none{day:Int}{M:List Ev}{i:Nat}{p:Ps}{R:List Int}(h:∀x,M.head?=some x→¬x.day=day):evR day M i p R=(i,p,R,0):=by
 cases M with
 |nil=>rfl
 |cons e M=>unfold evR;rw [if_neg (h e rfl)]
theorem walkD_ev1{t:Tm}{T:List Ev}{n d:Nat}{S:List (Int×Int)}{s:St}{e:Ev}{p':Ps}{R':List Int}{Z:St×Int}(he:T[s.i]?=some e)(hd:e.day=s.day)(ha:applyR s.p s.R e=(p',R',0))
  (hr:walkD t T n d S { s with i:=s.i+1,p:=p',R:=R' }=Z) (hz:Z.2=0):walkD t T n d S s=Z:=by
 have hev:evR s.day (T.drop s.i) s.i s.p s.R=evR s.day (T.drop (s.i+1)) (s.i+1) p' R':=by
  rw [Cn he]
  conv=>lhs;unfold evR
  rw [if_pos hd,ha]
  rfl
 cases d with
 |zero=>
  unfold walkD at hr⊢
  rw [hev]
  exact hr
 |succ d=>
  unfold walkD at hr⊢
  rw [hev]
  simp only at hr
  split
  ·rename_i h0
   rw [if_pos h0] at hr
   split
   ·rw [←hr] at hz;simp at hz
   ·rename_i fr te S'
    simp only at hr
    split
    ·rename_i ht
     rw [if_pos ht] at hr
     simp only [evSt,endSt] at hr⊢
     split
     ·rename_i hc
      rw [hc] at hr
      rw [←hr] at hz;simp at hz
     ·rename_i s2 hc
      rw [hc] at hr
      exact hr
    ·rename_i ht
     rw [if_neg ht] at hr
     exact hr
  ·rename_i h0
   rw [if_neg h0] at hr
   rw [←hr] at hz
   exact absurd hz h0
theorem rep_cons{x:List Int}{a:Int}(k:Nat):x++a::List.replicate k a=x++List.replicate (k+1) a:=rfl
theorem walkD_quiet{t:Tm}{T:List Ev}(d:Nat){fr te:Int}{S:List (Int×Int)}{i:Nat}{a b c du r1 r2:Int}{out:List Stm}:∀(k:Nat) (day:Int) (x1 x2 y1 y2:List Int),(∀x,T[i]?=some x→day+k≤x.day)→day+k≤te→
  walkD t T 2 (d+k) ((fr,te)::S) (st2 i day a b c du r1 r2 x1 x2 y1 y2 out)=walkD t T 2 d ((fr,te)::S) (st2 i (day+k) a b c du r1 r2 (x1++List.replicate k a) (x2++List.replicate k b) (y1++List.replicate k r1) (y2++List.replicate k r2) out):=by
 intro k
 induction k with
 |zero=>intro day x1 x2 y1 y2 _ _;simp
 |succ k ih=>
  intro day x1 x2 y1 y2 h1 h2
  have hn:evR day (T.drop i) i ⟨[a,b],c,du⟩ [r1,r2]=(i,⟨[a,b],c,du⟩, [r1,r2],0):=evR_none (by
   intro x hx
   rw [List.head?_drop] at hx
   have:=h1 x hx
   omega)
  rw [show d+(k+1)=(d+k)+1 by omega]
  conv=>lhs;unfold walkD
  simp only [st2,hn,evSt,endSt,if_true]
  rw [if_neg (by omega)]
  have:=ih (day+1) (x1++ [a]) (x2++ [b]) (y1++ [r1]) (y2++ [r2]) (fun x hx=>by have:=h1 x hx;omega) (by omega)
  simp only [st2] at this
  simp only [extL,List.zipWith,List.take,List.drop,List.append_nil]
  rw [this]
  simp only [List.append_assoc,List.singleton_append,rep_cons]
  rw [show day+1+(k:Int)=day+((k+1:Nat):Int) by omega]
theorem walkD_close{t:Tm}{T:List Ev}{d:Nat}{fr te day:Int}{S:List (Int×Int)}{i:Nat}{a b c du r1 r2:Int}{out:List Stm}{x1 x2 y1 y2:List Int}{a' b' c' du':Int}{X:Stm}{Z:St×Int}(hte:te=day)(hn:∀x,T[i]?=some x→¬x.day=day)
  (hc:closeS t T 2 (st2 i day a b c du r1 r2 (x1++ [a]) (x2++ [b]) (y1++ [r1]) (y2++ [r2]) out) fr te=some (st2 i day a' b' c' du' r1 r2 [] [] [] [] (out++ [X])))
  (hr:walkD t T 2 d S (st2 i (day+1) a' b' c' du' r1 r2 [] [] [] [] (out++ [X]))=Z):
  walkD t T 2 (d+1) ((fr,te)::S) (st2 i day a b c du r1 r2 x1 x2 y1 y2 out)=Z:=by
 have hn:evR day (T.drop i) i ⟨[a,b],c,du⟩ [r1,r2]=(i,⟨[a,b],c,du⟩, [r1,r2],0):=evR_none (by
  intro x hx
  rw [List.head?_drop] at hx
  exact hn x hx)
 conv=>lhs;unfold walkD
 simp only [st2,hn,evSt,endSt,if_true]
 rw [if_pos hte]
 simp only [extL,List.zipWith,List.take,List.drop,List.append_nil]
 simp only [st2] at hc hr
 rw [hc]
 exact hr
theorem walkD_stop{t:Tm}{T:List Ev}{n:Nat}{S:List (Int×Int)}{s:St}(hn:∀x,T[s.i]?=some x→¬x.day=s.day):walkD t T n 0 S s=(s,0):=by
 unfold walkD
 rw [evR_none (by intro x hx;rw [List.head?_drop] at hx;exact hn x hx)]
 rfl
theorem moneyP_iff'(v:Int):moneyP v=true↔0≤v∧v≤1000000000000000:=by simp [moneyP]
theorem right2{a b c d:Int}(ha:0≤a)(hb:0≤b)(hab:a+b≤1000000000000000)(hc:0≤c∧c≤1000000000000000)(hd:0≤d∧d≤1000000000000000)(h0:c=0∨a+b=0):Ps.rightB ⟨[a,b],c,d⟩=true:=by
 have h0':c=0∨a+(b+0)=0:=by omega
 simp only [Ps.rightB,scanB,List.all_cons,List.all_nil,sumI,Bool.and_eq_true,Bool.or_eq_true,decide_eq_true_eq,moneyP_iff',List.length_cons,List.length_nil]
 refine⟨⟨⟨⟨?_, ?_⟩,⟨?_, ?_⟩,trivial⟩, ?_, ?_⟩, ?_, ?_,hc,hd,h0'.imp id (fun h=>decide_eq_true h)⟩<;>omega
theorem mayA2{a b c d r1 r2:Int}{e:Ev}(hp:Ps.rightB ⟨[a,b],c,d⟩=true)(h1:0≤r1∧r1≤10000000)(h2:0≤r2∧r2≤10000000)(hk:1≤e.kind∧e.kind≤6)(ht:e.kind=2∨(1≤e.tranche∧e.tranche≤2))(hm:e.kind=6→0≤e.amount∧e.amount≤10000000):mayA ⟨[a,b],c,d⟩ [r1,r2] e=true:=by
 have e1:rateB r1=false:=(rateB_iff r1).2 h1
 have e2:rateB r2=false:=(rateB_iff r2).2 h2
 have k1:decide (e.kind<1)=false:=by simp;omega
 have k6:decide (6<e.kind)=false:=by simp;omega
 have kt:((e.kind !=2)&&(decide (e.tranche<1)||decide ((2:Int)<e.tranche)))=false:=by
  rcases ht with h|h
  ·simp [h]
  ·have:decide (e.tranche<1)=false:=by simp;omega
   have:decide (2<e.tranche)=false:=by simp;omega
   simp [*]
 have km:((e.kind !=6)||(decide (0≤e.amount)&&decide (e.amount≤10000000)))=true:=by
  by_cases h:e.kind=6
  ·have:=hm h;simp [this]
  ·simp [h]
 unfold mayA
 rw [hp]
 show(true&&(decide (([r1,r2]:List Int).length=([a,b]:List Int).length)&&(!([r1,r2].any rateB)&&_)))=true
 have kt':((e.kind !=2)&&(decide (e.tranche<1)||decide ((([r1,r2]:List Int).length:Int)<e.tranche)))=false:=kt
 rw [kt',k1,k6,km]
 simp [e1,e2]
theorem charge2{a b c d r1 r2 day ki tr m re a' b' c':Int}(hp:Ps.rightB ⟨[a,b],c,d⟩=true)(h1:0≤r1∧r1≤10000000)(h2:0≤r2∧r2≤10000000)(hk:ki=1∨ki=5)(hm:0≤m∧m≤1000000000000000)
  (ht:(tr=1∧a'=a+(m-minI m c)∧b'=b)∨(tr=2∧a'=a∧b'=b+(m-minI m c))) (hc:c'=c-minI m c) (hq:Ps.rightB ⟨[a',b'],c',d⟩=true):
  applyR ⟨[a,b],c,d⟩ [r1,r2] ⟨ki,day,tr,m,re⟩=(⟨[a',b'],c',d⟩, [r1,r2],0):=by
 have hmay:=mayA2 (e:=⟨ki,day,tr,m,re⟩) hp h1 h2 (by show 1≤ki∧ki≤6;omega) (by show ki=2∨(1≤tr∧tr≤2);omega) (by intro (h:ki=6);omega)
 have htr:trB 2 tr=true:=by rcases ht with⟨rfl,_⟩|⟨rfl,_⟩<;>rfl
 have hask:askE ⟨[a,b],c,d⟩ [tr] m=0:=by
  unfold askE
  rw [if_pos hp,if_pos (by show([tr].all (trB 2))=true;simp [htr]),if_pos ((moneyP_iff' m).2 hm)]
 have hch:chargeP ⟨[a,b],c,d⟩ tr m=⟨[a',b'],c',d⟩:=by
  subst hc
  rcases ht with⟨rfl,rfl,rfl⟩|⟨rfl,rfl,rfl⟩<;>rfl
 have hcr:chargeR ⟨[a,b],c,d⟩ tr m=(⟨[a',b'],c',d⟩,0):=by
  unfold chargeR
  rw [if_pos hask,hch,if_pos hq]
 unfold applyR
 rw [if_pos hmay]
 have hq2:applyQ ⟨[a,b],c,d⟩ [r1,r2] ⟨ki,day,tr,m,re⟩=(⟨[a',b'],c',d⟩,0):=by
  unfold applyQ
  rw [if_pos hk]
  exact hcr
 rw [hq2]
 simp only [if_true,applyRt]
 rw [if_neg (by show¬ki=6;omega)]
theorem dotI_le{A C:Int}(hA:0≤A)(hC:0≤C):∀(X Y:List Int),(∀x∈X,0≤x∧x≤A)→(∀y∈Y,0≤y∧y≤C)→0≤dotI X Y∧dotI X Y≤X.length*(A*C):=by
 intro X
 induction X with
 |nil=>intro Y _ _;cases Y<;>simp [dotI]
 |cons x X ih=>
  intro Y h1 h2
  have hAC:0≤A*C:=Int.mul_nonneg hA hC
  have hX:0≤(X.length:Int)*(A*C):=Int.mul_nonneg (by omega) hAC
  have hlen:(((x::X).length:Nat):Int)*(A*C)=(X.length:Int)*(A*C)+A*C:=by rw [List.length_cons,Int.natCast_add,Int.add_mul];simp
  cases Y with
  |nil=>rw [hlen];simp only [dotI];omega
  |cons y Y=>
   obtain⟨i1,i2⟩:=ih Y (fun z hz=>h1 z (List.mem_cons_of_mem _ hz)) (fun z hz=>h2 z (List.mem_cons_of_mem _ hz))
   have hx:=h1 x (List.mem_cons_self ..)
   have hy:=h2 y (List.mem_cons_self ..)
   have h3:0≤x*y:=Int.mul_nonneg hx.1 hy.1
   have h4:x*y≤A*C:=Int.le_trans (Int.mul_le_mul_of_nonneg_right hx.2 hy.1) (Int.mul_le_mul_of_nonneg_left hy.2 hA)
   rw [hlen]
   simp only [dotI]
   omega
theorem ofR_ok{X Y:List Int}{A:Int}(hA:0≤A)(hA2:A≤1000000000000)(hl:X.length≤32)(h1:∀x∈X,0≤x∧x≤A)(h2:∀y∈Y,0≤y∧y≤3000000):(ofR X Y).2=0∧0≤(ofR X Y).1∧(ofR X Y).1≤A∧ofR X Y=(evenI (dotI X Y) 1000000000,0):=by
 obtain⟨d1,d2⟩:=dotI_le hA (by decide:(0:Int)≤3000000) X Y h1 h2
 have d3:dotI X Y≤96000000*A:=by
  have:(X.length:Int)*(A*3000000)≤32*(A*3000000):=Int.mul_le_mul_of_nonneg_right (by omega) (by omega)
  omega
 have he:0≤evenI (dotI X Y) 1000000000∧evenI (dotI X Y) 1000000000≤A:=by
  unfold evenI
  split<;>omega
 unfold ofR
 rw [if_neg (by omega)]
 exact⟨rfl,he.1,he.2,rfl⟩
theorem closeF{T:List Ev}{i:Nat}{day a b du r1 r2 fr te v1 v2:Int}{x1 x2 y1 y2:List Int}{out:List Stm}{g:Bool}(hg:freeB out fr T=g)(hv1:(g=true∧v1=0)∨(g=false∧ofR x1 y1=(v1,0)))(hv2:ofR x2 y2=(v2,0))(n1:0≤v1)(n2:0≤v2)(ha:0≤a)(hb:0≤b)(hsum:a+v1+(b+v2)≤1000000000000000)(hdu:0≤du∧du≤1000000000000000):
  closeS tF T 2 (st2 i day a b 0 du r1 r2 x1 x2 y1 y2 out) fr te=some (st2 i day (a+v1) (b+v2) 0 (leastI 25 20 (a+v1+(b+v2))) r1 r2 [] [] [] [] (out++ [⟨(out.length:Int)+1,fr,te,te+20,a+v1+(b+v2),0,leastI 25 20 (a+v1+(b+v2)),g, [⟨a+v1,v1,r1⟩,⟨b+v2,v2,r2⟩]⟩])):=by
 have hi:intrO g tF.trs [x1,x2] [y1,y2]=some [v1,v2]:=by
  rcases hv1 with⟨rfl,rfl⟩|⟨rfl,hv⟩
  ·simp [intrO,tF,hv2]
  ·simp [intrO,tF,hv2,hv]
 have hp:Ps.rightB ⟨[a,b],0,du⟩=true:=right2 ha hb (by omega) (by omega) hdu (.inl rfl)
 have hq:Ps.rightB ⟨[a+v1,b+v2],0,du⟩=true:=right2 (by omega) (by omega) hsum (by omega) hdu (.inl rfl)
 have e1:minI v1 0=0:=by unfold minI;split<;>omega
 have e2:minI v2 0=0:=by unfold minI;split<;>omega
 have hbs:bearS [v1,v2] ⟨[a,b],0,du⟩ 2=⟨[a+v1,b+v2],0,du⟩:=by
  simp [bearS,chargeP,e1,e2]
 have hbr:bearR ⟨[a,b],0,du⟩ [v1,v2]=(⟨[a+v1,b+v2],0,du⟩,0):=by
  unfold bearR
  rw [if_pos ⟨hp,rfl,by simp [moneyP_iff'];omega⟩]
  show(if(bearS [v1,v2] ⟨[a,b],0,du⟩ 2).rightB=true then(bearS [v1,v2] ⟨[a,b],0,du⟩ 2,(0:Int)) else(ps0,5))=_
  rw [hbs,if_pos hq]
 unfold closeS
 simp only [st2]
 rw [hg,hi]
 simp only [closeR]
 rw [hbr]
 simp only [if_true,sumI,lnL,tF,List.replicate]
 rw [show a+v1+(b+v2+0)=a+v1+(b+v2) by omega]
theorem sortL_id{L:List Ev}(h:Sorted L):sortL L=L:=(sortL_one (L:=L) (X:=L) h (Alike.refl _)).symm
set_option maxHeartbeats 400000
theorem plainLine1_same(a0:Int)(a1:Int)(a2:Int)(w:World):Calls Tryz.prog 70 #[.agg #[.int .i64 a0,.int .i64 a1,.int .i64 a2],.agg #[.int .i64 a0,.int .i64 a1,.int .i64 a2]] w
  fun e w'=>e= .returned (.bool true)∧Keeps (fun _=>False) w w':=by
 go_enter Tryz.func70,Tryz.ntmps70
 go_wp2
 go_ret
 exact⟨rfl,(Keeps.alloc _ _).trans (Keeps.alloc _ _)⟩
theorem sameLine_same(L:List Ln)(v1 v2:Value)(w:World)(h1:Reads w 3 v1 L.length (L.flatMap Ln.cells))(h2:Reads w 3 v2 L.length (L.flatMap Ln.cells))(hl:L.length≤1000000000000):
  Calls Tryz.prog 69 #[v1,v2,.func (.func 70) #[] #[]] w fun e w'=>e= .returned (.bool true)∧Keeps (fun _=>False) w w':=by
 have g1:=h1
 have g2:=h2
 obtain⟨ad1,c1,rfl,_,_⟩:=g1
 obtain⟨ad2,c2,rfl,_,_⟩:=g2
 obtain⟨H1,H2⟩:=hid2 h1 h2;clear h2 h1
 go_enter Tryz.func69,Tryz.ntmps69
 go_wp2
 go_loopw [7] (fun i wr=>∃k:Nat,k≤L.length∧i= .int .i64 k∧Keeps (fun _=>False) w wr) (fun i _=>L.length-(intOf i).toNat)
 case atStart=>exact⟨0,Nat.zero_le _,rfl,Keeps.refl _ _⟩
 case round=>
  obtain⟨k,hk,rfl,hkp⟩:=hrel
  have Hkp:=Lib.hid hkp;clear hkp
  by_cases hlt:k<L.length
  ·obtain⟨x,hx⟩:∃x,L[k]?=some x:=⟨L[k],List.getElem?_eq_getElem hlt⟩
   obtain⟨g,o,c,he,hc⟩:=(H1.out.keeps Hkp.out (by simp)).elem Ln.Am hx (by decide)
   obtain⟨g',o',c',he',hc'⟩:=(H2.out.keeps Hkp.out (by simp)).elem Ln.Am hx (by decide)
   simp only [Value.slice.injEq,true_and] at he he'
   obtain⟨rfl,rfl⟩:=he
   obtain⟨rfl,rfl⟩:=he'
   obtain⟨e0,e1,e2⟩:=x
   have x0:wr.cell? ⟨g,o+k*3,none⟩=some (.int .i64 e0):=hc 0 (by decide)
   have x1:wr.cell? ⟨g,o+k*3+1,none⟩=some (.int .i64 e1):=hc 1 (by decide)
   have x2:wr.cell? ⟨g,o+k*3+2,none⟩=some (.int .i64 e2):=hc 2 (by decide)
   have y0:wr.cell? ⟨g',o'+k*3,none⟩=some (.int .i64 e0):=hc' 0 (by decide)
   have y1:wr.cell? ⟨g',o'+k*3+1,none⟩=some (.int .i64 e1):=hc' 1 (by decide)
   have y2:wr.cell? ⟨g',o'+k*3+2,none⟩=some (.int .i64 e2):=hc' 2 (by decide)
   clear hc hc'
   have Hx:=Lib.hid hx;clear hx
   go_wp2
   go_still_tail 9,(by kernel_rfl)
   go_wp2_with (go_at_call 70;refine(plainLine1_same _ _ _ _).mono ?_;rintro e w' ⟨rfl,hk2⟩;have Hk2:=Lib.hid hk2;clear hk2)
   exact jY4
  ·exact jY10
theorem plainLine_same(L:List Ln)(v1 v2:Value)(w:World)(h1:Reads w 3 v1 L.length (L.flatMap Ln.cells))(h2:Reads w 3 v2 L.length (L.flatMap Ln.cells))(hl:L.length≤1000000000000):
  Calls Tryz.prog 47 #[v1,v2] w fun e w'=>e= .returned (.bool true)∧Keeps (fun _=>False) w w':=by
 obtain⟨H1,H2⟩:=hid2 h1 h2;clear h2 h1
 go_enter Tryz.func47,Tryz.ntmps47
 go_wp2_with (go_at_call 69;refine(sameLine_same L _ _ _ H1.out H2.out hl).mono ?_;rintro e w' ⟨rfl,hk2⟩;have Hk2:=Lib.hid hk2;clear hk2)
 go_ret
 exact⟨rfl,Hk2.out⟩
theorem plainI641_same(a:Int)(w:World):Calls Tryz.prog 72 #[.int .i64 a,.int .i64 a] w
  fun e w'=>e= .returned (.bool true)∧w=w':=by
 go_enter Tryz.func72,Tryz.ntmps72
 go_wp2
 go_ret
 exact⟨rfl,rfl⟩
theorem sameI64_same(L:List Int)(v1 v2:Value)(w:World)(h1:Reads w 1 v1 L.length (L.flatMap i64c))(h2:Reads w 1 v2 L.length (L.flatMap i64c))(hl:L.length≤1000000000000):
  Calls Tryz.prog 71 #[v1,v2,.func (.func 72) #[] #[]] w fun e w'=>e= .returned (.bool true)∧Keeps (fun _=>False) w w':=by
 have g1:=h1
 have g2:=h2
 obtain⟨ad1,c1,rfl,_,_⟩:=g1
 obtain⟨ad2,c2,rfl,_,_⟩:=g2
 obtain⟨H1,H2⟩:=hid2 h1 h2;clear h2 h1
 go_enter Tryz.func71,Tryz.ntmps71
 go_wp2
 go_loopw [7] (fun i wr=>∃k:Nat,k≤L.length∧i= .int .i64 k∧Keeps (fun _=>False) w wr) (fun i _=>L.length-(intOf i).toNat)
 case atStart=>exact⟨0,Nat.zero_le _,rfl,Keeps.refl _ _⟩
 case round=>
  obtain⟨k,hk,rfl,hkp⟩:=hrel
  have Hkp:=Lib.hid hkp;clear hkp
  by_cases hlt:k<L.length
  ·obtain⟨x,hx⟩:∃x,L[k]?=some x:=⟨L[k],List.getElem?_eq_getElem hlt⟩
   obtain⟨g,o,c,he,hc⟩:=(H1.out.keeps Hkp.out (by simp)).elem Cc hx (by decide)
   obtain⟨g',o',c',he',hc'⟩:=(H2.out.keeps Hkp.out (by simp)).elem Cc hx (by decide)
   simp only [Value.slice.injEq,true_and] at he he'
   obtain⟨rfl,rfl⟩:=he
   obtain⟨rfl,rfl⟩:=he'
   have x0:wr.cell? ⟨g,o+k,none⟩=some (.int .i64 x):=by have:=hc 0 (by decide);simpa [i64c] using this
   have y0:wr.cell? ⟨g',o'+k,none⟩=some (.int .i64 x):=by have:=hc' 0 (by decide);simpa [i64c] using this
   clear hc hc'
   have Hx:=Lib.hid hx;clear hx
   go_wp2
   go_still_tail 9,(by kernel_rfl)
   go_wp2_with (go_at_call 72;refine(plainI641_same _ _).mono ?_;rintro e w' ⟨rfl,rfl⟩)
   go_roundw
   case rel=>exact⟨k+1,by omega,by go_num,(Hkp.out.trans (Keeps.drew _))⟩
   case measure=>simp [intOf];omega
  ·exact jY10
theorem plainI64_same(L:List Int)(v1 v2:Value)(w:World)(h1:Reads w 1 v1 L.length (L.flatMap i64c))(h2:Reads w 1 v2 L.length (L.flatMap i64c))(hl:L.length≤1000000000000):
  Calls Tryz.prog 48 #[v1,v2] w fun e w'=>e= .returned (.bool true)∧Keeps (fun _=>False) w w':=by
 obtain⟨H1,H2⟩:=hid2 h1 h2;clear h2 h1
 go_enter Tryz.func48,Tryz.ntmps48
 go_wp2_with (go_at_call 71;refine(sameI64_same L _ _ _ H1.out H2.out hl).mono ?_;rintro e w' ⟨rfl,hk2⟩;have Hk2:=Lib.hid hk2;clear hk2)
 go_ret
 exact⟨rfl,Hk2.out⟩
set_option maxHeartbeats 1600000
theorem sameStm_any(s:Stm)(v1 v2:Value)(w:World)(h1:Reads w 3 v1 s.lines.length (s.lines.flatMap Ln.cells))(h2:Reads w 3 v2 s.lines.length (s.lines.flatMap Ln.cells))(hl:s.lines.length≤1000000000000):
  Calls Tryz.prog 22 #[s.val v1,s.val v2] w fun e w'=>e= .returned (.bool true)∧Keeps (fun _=>False) w w':=by
 obtain⟨cy,fr,te,du,tot,cr,mi,gr,L⟩:=s
 simp only [Stm.val] at *
 have g1:=h1
 have g2:=h2
 obtain⟨ad1,c1,rfl,_,_⟩:=g1
 obtain⟨ad2,c2,rfl,_,_⟩:=g2
 obtain⟨H1,H2⟩:=hid2 h1 h2;clear h2 h1
 go_enter Tryz.func22,Tryz.ntmps22
 go_wp2_with (go_at_call 47;refine(plainLine_same L _ _ _ ((H1.out.alloc _).alloc _) ((H2.out.alloc _).alloc _) hl).mono ?_;rintro e w1 ⟨rfl,hk1⟩;have hb1:=Ad (Au (heap_alloc_new w _) _) hk1 (by simp);have hb2:=box_new hk1 (by simp);simp only [World.size_alloc] at hb2;have xa:=Aa hb1;have xb:=Aa hb2;have xl1:=lt_of_block hb1;have xl2:=lt_of_block hb2;have Hk1:=Lib.hid hk1;clear hk1 hb1 hb2)
 exact jY6
structure Pages19(w:World)(v:Value)(P:List SV):Prop where
 row:Reads w 9 v P.length (P.flatMap SV.cells)
 ln:∀x∈P,Reads w 3 x.v x.s.lines.length (x.s.lines.flatMap Ln.cells)
 len:∀x∈P,x.s.lines.length≤1000
 few:P.length≤1000000
theorem Pages19.keeps{w w':World}{v:Value}{P:List SV}(h:Pages19 w v P)(hk:Keeps (fun _=>False) w w'):Pages19 w' v P:=⟨h.row.keeps hk (by simp),fun x hx=>(h.ln x hx).keeps hk (by simp),h.len,h.few⟩
theorem sameStmL_any(P Q:List SV)(v1 v2:Value)(w:World)(h1:Pages19 w v1 P)(h2:Pages19 w v2 Q)(he:P.map SV.s=Q.map SV.s):
  Calls Tryz.prog 20 #[v1,v2,.func (.func 22) #[] #[]] w fun e w'=>e= .returned (.bool true)∧Keeps (fun _=>False) w w':=by
 obtain⟨n,hn⟩:∃n,P.length=n:=⟨_,rfl⟩
 have hm:Q.length=n:=by rw [←hn];have:=congrArg List.length he;simp at this;omega
 have hf:=h1.few
 have g1:=h1.row
 have g2:=h2.row
 rw [hn] at g1
 rw [hm] at g2
 have r1:=g1
 have r2:=g2
 obtain⟨ad1,c1,rfl,_,_⟩:=g1
 obtain⟨ad2,c2,rfl,_,_⟩:=g2
 have hone:∀(x:SV) (u1 u2:Value) (W:World),Reads W 3 u1 x.s.lines.length (x.s.lines.flatMap Ln.cells)→Reads W 3 u2 x.s.lines.length (x.s.lines.flatMap Ln.cells)→x.s.lines.length≤1000→Calls Tryz.prog 22 #[x.s.val u1,x.s.val u2] W fun e w'=>e= .returned (.bool true)∧Keeps (fun _=>False) W w':=fun x u1 u2 W a b c=>sameStm_any x.s u1 u2 W a b (by omega)
 rw [hn] at hf
 obtain⟨H1,H2,Hn,Hm,He,R1,R2,Hone⟩:=hid8 h1 h2 hn hm he r1 r2 hone;clear hone r2 r1 he hm hn h2 h1
 go_enter Tryz.func20,Tryz.ntmps20
 go_wp2
 go_loopw [7] (fun i wr=>∃k:Nat,k≤n∧i= .int .i64 k∧Keeps (fun _=>False) w wr) (fun i _=>n-(intOf i).toNat)
 case atStart=>exact⟨0,Nat.zero_le _,rfl,Keeps.refl _ _⟩
 case round=>
  obtain⟨k,hk,rfl,hkp⟩:=hrel
  have Hkp:=Lib.hid hkp
  clear hkp
  by_cases hlt:k<n
  ·obtain⟨x,hx⟩:=Av (L:=P) (k:=k) (by rw [Hn.out];exact hlt)
   obtain⟨y,hy⟩:=Av (L:=Q) (k:=k) (by rw [Hm.out];exact hlt)
   have hxy:x.s=y.s:=by
    have e1:(P.map SV.s)[k]?=some x.s:=by rw [List.getElem?_map,hx];rfl
    have e2:(Q.map SV.s)[k]?=some y.s:=by rw [List.getElem?_map,hy];rfl
    rw [He.out,e2] at e1
    exact(Option.some.inj e1).symm
   have hxm:=List.mem_of_getElem? hx
   have hym:=List.mem_of_getElem? hy
   have hcall:=fun W (hW:Keeps (fun _=>False) w W)=>Hone.out x x.v y.v W ((H1.out.ln x hxm).keeps hW (by simp)) (by rw [hxy];exact(H2.out.ln y hym).keeps hW (by simp)) (H1.out.len x hxm)
   obtain⟨g,o,c,he,hc⟩:=(R1.out.keeps Hkp.out (by simp)).elem SV.Am hx (by decide)
   obtain⟨g',o',c',he',hc'⟩:=(R2.out.keeps Hkp.out (by simp)).elem SV.Am hy (by decide)
   simp only [Value.slice.injEq,true_and] at he he'
   obtain⟨rfl,rfl⟩:=he
   obtain⟨rfl,rfl⟩:=he'
   obtain⟨⟨cy,fr,te,du,tot,cr,mi,gr,lb⟩,ax,cx⟩:=x
   obtain⟨⟨cy2,fr2,te2,du2,tot2,cr2,mi2,gr2,lb2⟩,ay,cyy⟩:=y
   simp only [Stm.mk.injEq] at hxy
   obtain⟨rfl,rfl,rfl,rfl,rfl,rfl,rfl,rfl,rfl⟩:=hxy
   obtain⟨l,hl⟩:∃l,lb.length=l:=⟨_,rfl⟩
   simp only [SV.v,Stm.val] at hcall
   rw [hl] at hcall
   have x0:wr.cell? ⟨g,o+k*9,none⟩=some (.int .i64 cy):=hc 0 (by decide)
   have x1:wr.cell? ⟨g,o+k*9+1,none⟩=some (.int .i64 fr):=hc 1 (by decide)
   have x2:wr.cell? ⟨g,o+k*9+2,none⟩=some (.int .i64 te):=hc 2 (by decide)
   have x3:wr.cell? ⟨g,o+k*9+3,none⟩=some (.int .i64 du):=hc 3 (by decide)
   have x4:wr.cell? ⟨g,o+k*9+4,none⟩=some (.slice ax l cx):=by have:=hc 4 (by decide);rw [←hl];exact this
   have x5:wr.cell? ⟨g,o+k*9+5,none⟩=some (.int .i64 tot):=hc 5 (by decide)
   have x6:wr.cell? ⟨g,o+k*9+6,none⟩=some (.int .i64 cr):=hc 6 (by decide)
   have x7:wr.cell? ⟨g,o+k*9+7,none⟩=some (.int .i64 mi):=hc 7 (by decide)
   have x8:wr.cell? ⟨g,o+k*9+8,none⟩=some (.bool gr):=hc 8 (by decide)
   have y0:wr.cell? ⟨g',o'+k*9,none⟩=some (.int .i64 cy):=hc' 0 (by decide)
   have y1:wr.cell? ⟨g',o'+k*9+1,none⟩=some (.int .i64 fr):=hc' 1 (by decide)
   have y2:wr.cell? ⟨g',o'+k*9+2,none⟩=some (.int .i64 te):=hc' 2 (by decide)
   have y3:wr.cell? ⟨g',o'+k*9+3,none⟩=some (.int .i64 du):=hc' 3 (by decide)
   have y4:wr.cell? ⟨g',o'+k*9+4,none⟩=some (.slice ay l cyy):=by have:=hc' 4 (by decide);rw [←hl];exact this
   have y5:wr.cell? ⟨g',o'+k*9+5,none⟩=some (.int .i64 tot):=hc' 5 (by decide)
   have y6:wr.cell? ⟨g',o'+k*9+6,none⟩=some (.int .i64 cr):=hc' 6 (by decide)
   have y7:wr.cell? ⟨g',o'+k*9+7,none⟩=some (.int .i64 mi):=hc' 7 (by decide)
   have y8:wr.cell? ⟨g',o'+k*9+8,none⟩=some (.bool gr):=hc' 8 (by decide)
   clear hc hc'
   obtain⟨Hx,Hy,Hxm,Hym,Hcall,Hl⟩:=hid6 hx hy hxm hym hcall hl;clear hl hcall hym hxm hy hx
   go_wp2
   go_still_tail 9,(by kernel_rfl)
   go_wp2_with (go_at_call 22;(with_reducible refine(Hcall.out _ (Hkp.out.trans (Keeps.drew _))).mono ?_);rintro e w' ⟨rfl,hk2⟩;have Hk2:=Lib.hid hk2;clear hk2)
   exact jY4
  ·exact jY10
theorem samePos_any(L:List Int)(n:Nat)(ad1 ad2:Option Addr)(c1 c2:Nat)(cr du:Int)(w:World)(hn:L.length=n)(h1:Reads w 1 (.slice ad1 n c1) n (L.flatMap i64c))(h2:Reads w 1 (.slice ad2 n c2) n (L.flatMap i64c))(hl:n≤1000000000000):
  Calls Tryz.prog 23 #[.agg #[.slice ad1 n c1,.int .i64 cr,.int .i64 du],.agg #[.slice ad2 n c2,.int .i64 cr,.int .i64 du]] w fun e w'=>e= .returned (.bool true)∧Keeps (fun _=>False) w w':=by
 have hc:=fun W (hW:Keeps (fun _=>False) w W)=>plainI64_same L (.slice ad1 n c1) (.slice ad2 n c2) W (by rw [hn];exact h1.keeps hW (by simp)) (by rw [hn];exact h2.keeps hW (by simp)) (by omega)
 obtain⟨H1,H2,Hc,Hn⟩:=hid4 h1 h2 hc hn;clear hn hc h2 h1
 go_enter Tryz.func23,Tryz.ntmps23
 go_wp2_with (go_at_call 48;(with_reducible refine(Hc.out _ ((Keeps.alloc _ _).Ae)).mono ?_);rintro e w1 ⟨rfl,hk1⟩;have hb1:=Ad (Au (heap_alloc_new w _) _) hk1 (by simp);have hb2:=box_new hk1 (by simp);simp only [World.size_alloc] at hb2;have xa:=Aa hb1;have xb:=Aa hb2;have xl1:=lt_of_block hb1;have xl2:=lt_of_block hb2;have Hk1:=Lib.hid hk1;clear hk1 hb1 hb2)
 exact jY6
theorem Pages19.of{w0 w':World}{n:Nat}{s:St}{vb vr vo:Value}{P:List SV}(h:WalkRes w0 n s vb vr vo P w')(h1:∀x∈s.out,x.lines.length≤8)(h2:s.out.length≤300):Pages19 w' vo P where
 row:=Reads.Bh h.out
 ln:=fun x hx=>Reads.Bh (h.ln x hx)
 len:=fun x hx=>by
  have:=h1 x.s (by rw [←h.lp];exact List.mem_map_of_mem hx)
  omega
 few:=by
  have:=congrArg List.length h.lp
  rw [List.length_map] at this
  omega
def acT9(B:Nat)(t:Tm)(vt:Value)(td:Int)(bl:Nat)(w:World):Prop:=tbS B t vt w∧w.cell? ⟨B,7,none⟩=some (.int .i64 td)∧w.cell? ⟨B,9,none⟩=some (.pointer (some ⟨bl,0,none⟩))
theorem acT9.of{w:World}{B:Nat}{x:AcV}{a:Ac}(h:AcAt w B x a):acT9 B a.t x.vt a.today x.bl w:=
 ⟨⟨Aa h.blk 0,Aa h.blk 1,Aa h.blk 2,Aa h.blk 3,Aa h.blk 4,Aa h.blk 5,Aa h.blk 6⟩,Aa h.blk 7,Aa h.blk 9⟩
def cy7S(B:Nat)(st cd td:Int)(w:World):Prop:=w.cell? ⟨B,6,none⟩=some (.int .i64 st)∧w.cell? ⟨B,2,none⟩=some (.int .i64 cd)∧w.cell? ⟨B,7,none⟩=some (.int .i64 td)
theorem te_arg{a:Ac}{d:Int}(h:d<1∨400<d):a.te d=1∧a.tc d=0∧a.tick d=a:=by
 have h1:a.te d=1:=by unfold Ac.te;rw [if_pos h]
 exact jY8
theorem te_day{a:Ac}{d:Int}(h:¬(d<1∨400<d))(h2:¬ofE a.t.start a.t.cyc (a.today+d)=0):a.te d=10∧a.tc d=0∧a.tick d=a:=by
 have h1:a.te d=10:=by unfold Ac.te;rw [if_neg h,if_pos h2]
 exact jY8
theorem te_run{a:Ac}{d:Int}(h:¬(d<1∨400<d))(h2:ofE a.t.start a.t.cyc (a.today+d)=0):a.te d=(a.tz d).2:=by
 unfold Ac.te
 rw [if_neg h,if_neg (by omega)]
theorem te_bad{a:Ac}{d:Int}(h:¬(d<1∨400<d))(h2:ofE a.t.start a.t.cyc (a.today+d)=0)(h3:¬(a.tz d).2=0):a.te d=(a.tz d).2∧a.tc d=0∧a.tick d=a:=by
 have h1:=te_run h h2
 exact⟨h1,by unfold Ac.tc;rw [h1,if_neg (fun e=>h3 e.1)],by unfold Ac.tick;rw [h1,if_neg h3]⟩
theorem te_ok{a:Ac}{d:Int}(h:¬(d<1∨400<d))(h2:ofE a.t.start a.t.cyc (a.today+d)=0)(h3:(a.tz d).2=0):a.te d=0∧a.tc d=(if a.s.out.length<(a.tz d).1.out.length then((a.tz d).1.out.length:Int) else 0)∧a.tick d={ a with today:=a.today+d,s:=(a.tz d).1,iss:=a.iss++(a.tz d).1.out.drop a.s.out.length,seq:=a.seq+1 }:=by
 have h1:a.te d=0:=(te_run h h2).trans h3
 refine⟨h1, ?_,by unfold Ac.tick;rw [h1,if_pos rfl]⟩
 unfold Ac.tc
 rw [h1]
 by_cases h4:a.s.out.length<(a.tz d).1.out.length
 ·rw [if_pos ⟨rfl,h4⟩,if_pos h4]
 ·rw [if_neg (fun e=>h4 e.2),if_neg h4]
def t12S(B:Nat)(vi vn:Value)(w:World):Prop:=w.cell? ⟨B,16,none⟩=some vi∧w.cell? ⟨B,15,none⟩=some vn
theorem t12S.of{w W:World}{B:Nat}{x:AcV}{a:Ac}(h:AcAt w B x a)(hk:Keeps (fun _=>False) w W):t12S B x.vi x.vn W:=by
 have hA:=h.keep0 hk
 exact⟨Aa hA.blk 16,Aa hA.blk 15⟩
theorem drop_stms{w:World}{ao:Option Addr}{n2 co n1:Nat}{P:List SV}(h:StmsR w ao n2 co P)(hn:n1≤n2):StmsR w (if co=n1 then ao else Option.map (fun x=>x.add (n1*9)) ao) (n2-n1) (co-n1) (P.drop n1):=by
 obtain⟨⟨ad,c,he,hnc,hl,hnone,hcells⟩,h2,h3,h4⟩:=h
 simp only [Value.slice.injEq,true_and] at he
 obtain⟨rfl,rfl⟩:=he
 refine⟨⟨_,_,rfl,by omega, ?_,fun hz=> ?_,fun j u hj=> ?_⟩,fun x hx=>h2 x (List.mem_of_mem_drop hx),fun x hx=>h3 x (List.mem_of_mem_drop hx),by rw [List.length_drop,h4]⟩
 ·rw [Dl SV.Am,List.length_drop,h4]
 ·by_cases hc:co=n1
  ·omega
  ·rw [if_neg hc] at hz
   rw [Option.map_eq_none_iff] at hz
   have:=hnone hz
   omega
 ·rw [←flat_dropk SV.Am,List.getElem?_drop] at hj
  obtain⟨g,o,rfl,hh⟩:=hcells _ _ hj
  by_cases hc:co=n1
  ·have h5:n2=n1:=by omega
   have h6:=(List.getElem?_eq_some_iff.1 hj).1
   rw [hl] at h6
   exact absurd h6 (by rw [h5];omega)
  ·rw [if_neg hc]
   exact⟨g,o+n1*9,by rw [Option.map_some,add_mk],by rw [Nat.add_assoc];exact hh⟩
theorem t12S.keepS{B:Nat}{vi vn:Value}{w w':World}{S:Nat→Prop}(h:t12S B vi vn w)(hk:Keeps S w w')(hS:¬S B):t12S B vi vn w':=⟨(hk.cell (Ag h.1) hS).trans h.1,(hk.cell (Ag h.2) hS).trans h.2⟩
def TkS(B:Nat)(x:AcV)(w W2:World)(i:Nat):Prop:=(i=B∨x.vi.ownBlock=some i)∨(w.heap.size≤i∧i<W2.heap.size)
theorem AcAt.ticked{w wc Wf W2:World}{B n M:Nat}{x:AcV}{a:Ac}{d:Int}{Z:St×Int}{vp vr vn vi:Value}{P Q:List SV}(h:AcAt w B x a)(hkc:Keeps (fun _=>False) w wc)(hk2:Keeps (fun _=>False) w W2)(hk2c:Keeps (fun _=>False) W2 wc)
  (hK:Keeps (TkS B x w W2) wc Wf) (_:a.t.trs.length=n) (hZ:walkR a.t a.L (a.today+d)=Z) (hz:Z.2=0) (g:WalkRes W2 n Z.1 vp vr vn P wc) (hmo:a.s.out.length≤Z.1.out.length) (hq:Q.map SV.s=Z.1.out.drop a.s.out.length)
  (hql:∀y∈Q,wc.ownsRow 0 102 3 y.v y.s.lines.length (y.s.lines.flatMap Ln.cells)) (hqf:∀y∈Q,∀b,y.v.ownBlock=some b→W2.heap.size≤b)
  (hb:Wf.heap[B]?=some (.cells #[.int .i64 a.t.limit,x.vt,.int .i64 a.t.cyc,.int .i64 a.t.due,.int .i64 a.t.minFixed,.int .i64 a.t.minPart,.int .i64 a.t.start,.int .i64 (a.today+d),.int .i64 (a.seq+1),(.pointer (some ⟨x.bl,0,none⟩)),(.pointer (some ⟨x.bb,0,none⟩)),vp,.int .i64 Z.1.p.cr,.int .i64 Z.1.p.du,vr,vn,vi,x.va] 89 (0,0)))
  (hri:Wf.ownsRow 0 42 9 vi (x.I++Q).length ((x.I++Q).flatMap SV.cells)) (hM1:wc.heap.size≤M) (hvi:∀b,vi.ownBlock=some b→x.vi.ownBlock=some b∨M≤b):
  AcPost w B x { a with today:=a.today+d,s:=Z.1,iss:=a.iss++Z.1.out.drop a.s.out.length,seq:=a.seq+1 } Wf:=by
 have hA:=h.keep0 hkc
 have hBl:=lt_of_block h.blk
 have hvil:∀b,x.vi.ownBlock=some b→b<w.heap.size:=fun b hb=>rowLt h.iss hb
 have hsz:=hk2.size
 have hszc:=hkc.size
 have hsz2c:=hk2c.size
 have hZ1:Z=(Z.1,0):=by rw [←hz]
 have hnum:=h.ok.nums
 obtain⟨o1,o2,_,_⟩:=walkR_out hZ hz
 have hok:AcOk { a with today:=a.today+d,s:=Z.1,iss:=a.iss++Z.1.out.drop a.s.out.length,seq:=a.seq+1 }:=by
  refine⟨by show walkR a.t a.L (a.today+d)=(Z.1,0);rw [hZ];exact hZ1, ?_,fun y hy=> ?_, ?_,by have:=h.ok.s0;show 0≤a.seq+1;omega⟩
  ·show(a.iss++Z.1.out.drop a.s.out.length).length=Z.1.out.length
   rw [List.length_append,List.length_drop,h.ok.il]
   omega
  ·have hy':y∈a.iss++Z.1.out.drop a.s.out.length:=hy
   rcases List.mem_append.1 hy' with h1|h1
   ·exact h.ok.ill y h1
   ·exact o1 y (List.mem_of_mem_drop h1)
  ·have:=h.ok.aj
   show(a.adj.length:Int)≤301000*(a.seq+1)
   omega
 have nw:∀b,W2.heap.size≤b→¬TkS B x w W2 b:=fun b hb e=>by
  rcases e with(e|e)|⟨_,e⟩
  ·omega
  ·have:=hvil b e;omega
  ·omega
 have hold:∀b,x.rd b→¬TkS B x w W2 b:=fun b hb e=>by
  rcases e with e|⟨e,_⟩
  ·exact h.sep b hb (e.elim .inl fun e=> .inr (.inl e))
  ·have:=h.lt b (.inr hb);omega
 have hrd:∀b,AcV.rd ({ x with vp:=vp,vr:=vr,vn:=vn,vi:=vi,P:=P,I:=x.I++Q }:AcV) b→x.rd b∨(w.heap.size≤b∧b<M):=by
  rintro b (hb|hb|hb|hb|hb|hb|hb|hb|⟨y,hy,hb⟩|⟨y,hy,hb⟩)
  ·exact .inl (.inl hb)
  ·have:=g.wb b hb;have:=rowLt g.bal hb;exact .inr ⟨by omega,by omega⟩
  ·have:=g.wr b hb;have:=rowLt g.rts hb;exact .inr ⟨by omega,by omega⟩
  ·have:=g.wo b hb;have:=rowLt g.out hb;exact .inr ⟨by omega,by omega⟩
  ·exact .inl (.inr (.inr (.inr (.inr (.inl hb)))))
  ·exact .inl (.inr (.inr (.inr (.inr (.inr (.inl hb))))))
  ·exact .inl (.inr (.inr (.inr (.inr (.inr (.inr (.inl hb)))))))
  ·exact .inl (.inr (.inr (.inr (.inr (.inr (.inr (.inr (.inl hb))))))))
  ·have:=g.wl y hy b hb;have:=rowLt (g.ln y hy) hb;exact .inr ⟨by omega,by omega⟩
  ·rcases List.mem_append.1 hy with h1|h1
   ·exact .inl (.inr (.inr (.inr (.inr (.inr (.inr (.inr (.inr (.inr ⟨y,h1,hb⟩)))))))))
   ·have:=hqf y h1 b hb;have:=rowLt (hql y h1) hb;exact .inr ⟨by omega,by omega⟩
 have haf:∀b,AcF B ({ x with vp:=vp,vr:=vr,vn:=vn,vi:=vi,P:=P,I:=x.I++Q }:AcV) b→AcF B x b∨M≤b:=by
  rintro b (hb|hb|hb)
  ·exact .inl (.inl hb)
  ·exact(hvi b hb).imp (fun e=> .inr (.inl e)) id
  ·exact .inl (.inr (.inr hb))
 have hKF:=(hkc.mono (T:=AcF B x) (by simp)).trans (hK.mono fun i _ e=>e.elim (fun e=> .inl (e.elim .inl fun e=> .inr (.inl e))) fun e=> .inr e.1)
 obtain⟨h1,h2⟩:=AcAt.build (x':={ x with vp:=vp,vr:=vr,vn:=vn,vi:=vi,P:=P,I:=x.I++Q }) (a':={ a with today:=a.today+d,s:=Z.1,iss:=a.iss++Z.1.out.drop a.s.out.length,seq:=a.seq+1 }) h M (by omega) hKF rfl rfl hb
  (hA.dl.keepS hK (hold _ (.inr (.inr (.inr (.inr (.inl rfl)))))) (fun b hb=>hold b (.inr (.inr (.inr (.inr (.inr (.inl hb))))))) (fun b hb=>hold b (.inr (.inr (.inr (.inr (.inr (.inr (.inl hb)))))))))
  (hA.bk.keeps hK fun b hb=>hold b (.inr (.inr (.inr (.inr (.inr (.inr (.inr (.inl hb)))))))))
  (by rw [show Z.1.p.bal.length=n from g.nb];exact hK.row g.bal fun b hb=>nw b (g.wb b hb)) (by rw [show Z.1.R.length=n from g.nr];exact hK.row g.rts fun b hb=>nw b (g.wr b hb)) (hK.row g.out fun b hb=>nw b (g.wo b hb)) (fun y hy=>hK.row (g.ln y hy) fun b hb=>nw b (g.wl y hy b hb)) g.lp
  hri (fun y hy=>by
   rcases List.mem_append.1 hy with h1|h1
   ·exact hK.row (hA.iln y h1) fun b hb=>hold b (.inr (.inr (.inr (.inr (.inr (.inr (.inr (.inr (.inr ⟨y,h1,hb⟩)))))))))
   ·exact hK.row (hql y h1) fun b hb=>nw b (hqf y h1 b hb)) (by rw [List.map_append,hA.is,hq]) (hK.row hA.adj fun b hb e=>by
   rcases e with(e|e)|⟨e,_⟩
   ·exact h.sa b hb e
   ·exact h.si b e (.inr hb)
   ·have:=rowLt h.adj hb;omega) hok hrd haf
 exact⟨_,h1,hKF,h2⟩
def TickPost(a:Ac)(d:Int)(w:World)(B:Nat)(x:AcV)(e:Ending)(w':World):Prop:=e= .returned (.agg #[.int .i64 (a.te d),.int .i64 0,.int .i64 (a.tc d),.int .i64 0,.int .i64 0,.slice none 0 0,.int .i64 0,.int .i64 0,.slice none 0 0,.slice none 0 0,.int .i64 0,.int .i64 0,.int .i64 0,.int .i64 0,.int .i64 0,.slice none 0 0,.int .i64 0,.int .i64 0,.int .i64 0,.bool false])∧AcPost w B x (a.tick d) w'
theorem accTick_arg(B:Nat)(x:AcV)(a:Ac)(d:Int)(w:World)(h:AcAt w B x a)(hd:d<1∨400<d):Calls Tryz.prog 39 #[(.pointer (some ⟨B,0,none⟩)),.int .i64 d] w (TickPost a d w B x):=by
 by_cases h1:d<1
 ·exact jY1
 ·have h2:400<d:=by omega
  exact jY1
set_option maxHeartbeats 3200000
theorem accTick_any(B:Nat)(x:AcV)(a:Ac)(d:Int)(w:World)(h:AcAt w B x a)(hs:a.seq≤100000)(hmo:a.te d=0→a.s.out.length≤(a.tz d).1.out.length):Calls Tryz.prog 39 #[(.pointer (some ⟨B,0,none⟩)),.int .i64 d] w (TickPost a d w B x):=by
 by_cases hd:d<1∨400<d
 ·exact accTick_arg B x a d w h hd
 obtain⟨i0,hi,hi0,hi1,hi2⟩:=info_parts info_tStm
 have hn:=h.ok.nums
 have hd1:¬d<1:=by omega
 have hd2:¬400<d:=by omega
 obtain⟨W0,hW0⟩:∃x,x=w.alloc (.cells #[.int .i64 0,.int .i64 0,.int .i64 0,.int .i64 0,.int .i64 0,.slice none 0 0,.int .i64 0,.int .i64 0,.slice none 0 0,.slice none 0 0,.int .i64 0,.int .i64 0,.int .i64 0,.int .i64 0,.int .i64 0,.slice none 0 0,.int .i64 0,.int .i64 0,.int .i64 0,.bool false] 44):=⟨_,rfl⟩
 have hb0:W0.heap[w.heap.size]?=some (.cells #[.int .i64 0,.int .i64 0,.int .i64 0,.int .i64 0,.int .i64 0,.slice none 0 0,.int .i64 0,.int .i64 0,.slice none 0 0,.slice none 0 0,.int .i64 0,.int .i64 0,.int .i64 0,.int .i64 0,.int .i64 0,.slice none 0 0,.int .i64 0,.int .i64 0,.int .i64 0,.bool false] 44 (0,0)):=by rw [hW0];exact heap_alloc_new w _
 have hk0:Keeps (fun _=>False) w W0:=by rw [hW0];exact Keeps.alloc _ _
 obtain⟨st,hst⟩:∃s,a.t.start=s:=⟨_,rfl⟩
 obtain⟨cd,hcd⟩:∃s,a.t.cyc=s:=⟨_,rfl⟩
 obtain⟨td,htd⟩:∃s,a.today=s:=⟨_,rfl⟩
 have td0: -135140≤td:=by have:=hn.ds;have:=hn.d0;omega
 have td1:td≤2932896:=by have:=hn.d1;omega
 have hcy:=fun W=>cycOf_any st cd (td+d) W ⟨by have:=hn.ds;omega,by have:=hn.d0;have:=hn.d1;omega⟩
 obtain⟨z1,hz1⟩:∃z,ofE st cd (td+d)=z:=⟨_,rfl⟩
 obtain⟨y1,hy1⟩:∃z,ofV st cd (td+d)=z:=⟨_,rfl⟩
 rw [hz1,hy1] at hcy
 have hcS:∀W,Keeps (fun _=>False) w W→cy7S B st cd td W:=fun W hW=>by
  have hA:=h.keep0 hW
  exact⟨by rw [←hst];exact Aa hA.blk 6,by rw [←hcd];exact Aa hA.blk 2,by rw [←htd];exact Aa hA.blk 7⟩
 have q1:IntKind.i64.wrap (td+d)=td+d:=IntWalk.i64_in _ ⟨by omega,by omega⟩
 have HBl:=Lib.hid (lt_of_block h.blk)
 have hbl:=lt_of_block h.blk
 obtain⟨H,Hn,Hb0,Hk0,Hcy,Hz1,Hy1,HcS,Hst⟩:=hid9 h hn hb0 hk0 hcy hz1 hy1 hcS hst;clear hst hcS hy1 hz1 hcy hk0 hb0 hn h;obtain⟨Hcd,Htd,Hmo,Hd,Hi,Hi0,Hi1,Hi2⟩:=hid8 hcd htd hmo hd hi hi0 hi1 hi2;clear hi2 hi1 hi0 hi hd hmo htd hcd
 go_enter Tryz.func39,Tryz.ntmps39
 go_upto_region 3 with fail
 rw [←hW0]
 clear hW0
 refine Ao (cy7S B st cd td) (.take 0 (.take 1 (.take 2 (.take 3 (.take 4 (.take 5 (.take 6 (.take 7 (.take 8 (.take 9 (.take 10 (.take 11 (.take 12 (.take 13 (.take 14 (.take 15 (.move 16 (.take 17 (.take 18 (.take 19 (.take 20 (.take 21 .done)))))))))))))))))))))) (by kernel_rfl) (by kernel_rfl) ?_ ?_
 ·exact HcS.out _ (Hk0.out.nt (Keeps.drew _))
 intro w1 hs1 hk1
 repeat ((first|refine Ai rfl (by rfl) ?_|refine Af rfl (by rfl) ?_|(refine Ah (v:= ?_) rfl (by rfl) ?_ ?_;rotate_left;(· intro w' hSw;unfold cy7S at hSw;go_simp;(try with_reducible rfl));rotate_right));try simp only [aps])
 refine Ak rfl (fun K hK=> ?_)
 go_simp
 go_at_call 62
 ((with_reducible refine(Hcy.out w1).mono ?_);rintro e w2 ⟨rfl,hk2⟩;dsimp only)
 have hk02:=Keeps.nt (Keeps.nt Hk0.out hk1) hk2
 refine hK.out _ _ (by exact HcS.out _ hk02) ?_
 clear hK K
 try simp only [aps]
 have hb2:=Ad (Ad Hb0.out hk1 (by simp)) hk2 (by simp)
 clear hs1 hk1 hk2
 obtain⟨Hk02,Hb2⟩:=hid2 hk02 hb2;clear hb2 hk02
 repeat ((first|refine Ai rfl (by rfl) ?_|refine Af rfl (by rfl) ?_|(refine Ah (v:= ?_) rfl (by rfl) ?_ ?_;rotate_left;(· intro w' hSw;unfold cy7S at hSw;go_simp;(try with_reducible rfl));rotate_right));try simp only [aps])
 refine Aw ?_
 by_cases h0:z1=0
 ·subst h0
  have hofz:ofE a.t.start a.t.cyc (a.today+d)=0:=by rw [Hst.out,Hcd.out,Htd.out,Hz1.out]
  have hkw2:=Hk02.out
  obtain⟨n,hN⟩:∃n,a.t.trs.length=n:=⟨_,rfl⟩
  obtain⟨Z,hZ⟩:∃Z,walkR a.t a.L (a.today+d)=Z:=⟨_,rfl⟩
  have hcz:a.tz d=Z:=hZ
  obtain⟨adt,ct,hvt,_,_⟩:=Aj H.out.trs
  have hrt:=Reads.Bh H.out.trs
  rw [hN] at hvt hrt
  obtain⟨t,ht⟩:∃t,a.t=t:=⟨_,rfl⟩
  obtain⟨L1,hL1⟩:∃L,a.L=L:=⟨_,rfl⟩
  have hL1l:L1.length≤3000:=by rw [←hL1];have:=Hn.out.ll;omega
  rw [ht,hL1,Htd.out] at hZ
  rw [ht] at hN hrt
  rw [hvt] at hrt
  have hdl2:=H.out.dl.keep hkw2
  rw [ht,hL1] at hdl2
  obtain⟨B1,hB1⟩:∃b,x.bl=b:=⟨_,rfl⟩
  rw [hB1] at hdl2
  have hall:=fun W (hW:Keeps (fun _=>False) w2 W)=>datAll_any B1 t x.vtl x.vl L1 W (hdl2.keep hW) (by omega)
  have hrun:=fun W (hW:Keeps (fun _=>False) w2 W) ad c (hr:Reads W 5 (.slice ad L1.length c) L1.length (L1.flatMap Ev.cells))=>repRun_any t adt ct n L1 ad c L1.length (td+d) W hN (hrt.keeps (hkw2.nt hW) (by simp)) rfl hr (by omega) (by have:=Hn.out.n8;rw [ht,hN] at this;omega)
  rw [hZ] at hrun
  have hSk:∀W,Keeps (fun _=>False) w2 W→acT9 B t (.slice adt n ct) td B1 W:=fun W hW=>by have:=acT9.of (H.out.keep0 (hkw2.nt hW));rw [ht,Htd.out,hvt,hB1] at this;exact this
  obtain⟨W2,hW2⟩:∃W,W=w2:=⟨_,rfl⟩
  subst hW2
  have HBl2:=Lib.hid (Nat.lt_of_lt_of_le HBl.out hkw2.size)
  clear HBl
  have HBl:=HBl2
  clear HBl2
  obtain⟨Hkw2,Hdl2,HL1,HL1l,HN,HZ,Hvt,Hrt,Ht⟩:=hid9 hkw2 hdl2 hL1 hL1l hN hZ hvt hrt ht;clear ht hrt hvt hZ hN hL1l hL1 hdl2 hkw2;obtain⟨Hall,Hrun,HSk,Hcz,Hofz,HB1⟩:=hid6 hall hrun hSk hcz hofz hB1;clear hB1 hofz hcz hSk hrun hall
  go_upto_region 6 with fail
  go_cut [7,8,9,10] (fun p r q z wx=>CnRun W2 n Z p r q z wx)
  case first=>
   refine Ao (acT9 B t (.slice adt n ct) td B1) (.take 0 (.take 1 (.take 2 (.take 3 (.take 4 (.take 5 (.take 6 (.take 7 (.take 9 (.take 10 (.take 11 (.take 12 (.take 13 (.take 14 (.fork 8 (.fork 15 (.take 16 (.take 17 (.take 18 (.take 19 (.take 20 (.move 21 (.move 22 (.take 23 (.take 24 (.take 25 .done)))))))))) 21 (.move 15 (.take 16 (.take 17 (.take 18 (.take 19 (.take 20 (.move 22 (.take 23 (.take 24 (.take 25 .done))))))))))) 21 (.move 8 (.move 15 (.take 16 (.take 17 (.take 18 (.take 19 (.take 20 (.move 22 (.take 23 (.take 24 (.take 25 .done)))))))))))))))))))))))))) (by kernel_rfl) (by kernel_rfl) ?_ ?_
   ·exact HSk.out _ (Keeps.drew _)
   intro w3 hs3 hk3
   repeat ((first|refine Ai rfl (by rfl) ?_|refine Af rfl (by rfl) ?_|(refine Ah (v:= ?_) rfl (by rfl) ?_ ?_;rotate_left;(· intro w' hSw;unfold acT9 tbS at hSw;go_simp;(try with_reducible rfl));rotate_right));try simp only [aps])
   refine Cv ?_ ?_ (HSk.out _ hk3)
   ·refine Ak rfl (fun K hK=> ?_)
    go_simp
    go_at_call 53
    ((with_reducible refine(Hall.out w3 hk3).mono ?_);rintro e w4 hg)
    obtain⟨v',rfl,hrd,hkg,hng⟩:=hg
    obtain⟨ae,ce,rfl,_⟩:=id hrd
    dsimp only
    have hkn:Keeps (fun _=>False) W2 w4:=Keeps.nt hk3 hkg
    refine hK.out _ _ (by exact HSk.out _ hkn) ?_
    clear hK K
    try simp only [aps]
    repeat ((first|refine Ai rfl (by rfl) ?_|refine Af rfl (by rfl) ?_|(refine Ah (v:= ?_) rfl (by rfl) ?_ ?_;rotate_left;(· intro w' hSw;unfold acT9 tbS at hSw;go_simp;(try with_reducible rfl));rotate_right));try simp only [aps])
    refine Cv ?_ ?_ (HSk.out _ hkn)
    ·refine Ak rfl (fun K hK=> ?_)
     go_simp
     go_at_call 37
     ((with_reducible refine(Hrun.out w4 hkn ae ce hrd).mono ?_);intro e w5 hpo)
     obtain⟨vb2,cr2,du2,vr2,vo2,z2,rfl,hi2,hk7,a2,n2,c2,rfl⟩:=run_is hpo
     clear hpo
     dsimp only
     have hkr:Keeps (fun _=>False) W2 w5:=Keeps.nt hkn hk7
     refine hK.out _ _ (by exact HSk.out _ hkr) ?_
     clear hK K
     try simp only [aps]
     repeat ((first|refine Ai rfl (by rfl) ?_|refine Af rfl (by rfl) ?_|(refine Ah (v:= ?_) rfl (by rfl) ?_ ?_;rotate_left;(· intro w' hSw;unfold acT9 tbS at hSw;go_simp;(try with_reducible rfl));rotate_right));try simp only [aps])
     obtain⟨w8,hw8⟩:∃x,x=(w5).alloc (.cells #[.slice none 0 0,.int .i64 0,.int .i64 0] 34):=⟨_,rfl⟩
     obtain⟨b7,hb7⟩:∃x,x=(w5).heap.size:=⟨_,rfl⟩
     have hkA:Keeps (fun _=>False) w5 w8:=by rw [hw8];exact Keeps.alloc _ _
     have hz8:(w8).heap[b7]?=some (.cells #[.slice none 0 0,.int .i64 0,.int .i64 0] 34 (0,0)):=by rw [hw8,hb7];exact heap_alloc_new _ _
     have hb7l:W2.heap.size≤b7:=by rw [hb7];exact(hkr).size
     have hka8:Keeps (fun _=>False) W2 w8:=Keeps.nt hkr hkA
     have hb7B:¬B=b7:=fun e=>by have:=HBl.out;omega
     have hb7w:(w5).heap.size≤b7:=by rw [hb7];exact Nat.le_refl _
     refine Ak rfl (fun K hK=> ?_)
     go_simp
     rw [←hw8,←hb7]
     clear hw8 hb7
     refine hK.out _ _ (by exact HSk.out _ hka8) ?_
     clear hK K
     try simp only [aps]
     repeat ((first|refine Ai rfl (by rfl) ?_|refine Af rfl (by rfl) ?_|(refine Ah (v:= ?_) rfl (by rfl) ?_ ?_;rotate_left;(· intro w' hSw;unfold acT9 tbS at hSw;go_simp;(try with_reducible rfl));rotate_right));try simp only [aps])
     have hlz:=lt_of_block hz8
     have z0:=Aa hz8 0
     have z1:=Aa hz8 1
     have z2':=Aa hz8 2
     have zf0:=Ab hz8 0
     have zf1:=Ab hz8 1
     have zf2:=Ab hz8 2
     obtain⟨hbz,hkz⟩:=store3 hz8 (.slice a2 n2 c2) (.int .i64 cr2) (.int .i64 du2)
     have hk4z:Keeps (fun _=>False) W2 ((((w8).setCell ⟨b7,0,none⟩ (.slice a2 n2 c2)).setCell ⟨b7,1,none⟩ (.int .i64 cr2)).setCell ⟨b7,2,none⟩ (.int .i64 du2)):=Keeps.trans hka8 (hkz.mono fun i _ e=> .inr (by have e':i=b7:=e;omega))
     have hrel:CnRun W2 n Z (.pointer (some ⟨b7,0,none⟩)) vr2 vo2 (.int .i64 z2) ((((w8).setCell ⟨b7,0,none⟩ (.slice a2 n2 c2)).setCell ⟨b7,1,none⟩ (.int .i64 cr2)).setCell ⟨b7,2,none⟩ (.int .i64 du2)):=⟨b7,_,_,_,cr2,du2,z2,rfl,rfl,rfl,rfl,hb7l,hk4z,hbz,((hi2.up hkn).keep (hkA.trans (hkz.mono fun i _ e=> .inr (by have e':i=b7:=e;omega)))),_,_,_,rfl⟩
     exact jY2
    ·obtain⟨w8,hw8⟩:∃x,x=(w4).alloc (.cells #[.slice none 0 0,.int .i64 0,.int .i64 0] 34):=⟨_,rfl⟩
     obtain⟨b7,hb7⟩:∃x,x=(w4).heap.size:=⟨_,rfl⟩
     have hkA:Keeps (fun _=>False) w4 w8:=by rw [hw8];exact Keeps.alloc _ _
     have hz8:(w8).heap[b7]?=some (.cells #[.slice none 0 0,.int .i64 0,.int .i64 0] 34 (0,0)):=by rw [hw8,hb7];exact heap_alloc_new _ _
     have hb7l:W2.heap.size≤b7:=by rw [hb7];exact(hkn).size
     have hka8:Keeps (fun _=>False) W2 w8:=Keeps.nt hkn hkA
     have hb7B:¬B=b7:=fun e=>by have:=HBl.out;omega
     have hb7w:(w4).heap.size≤b7:=by rw [hb7];exact Nat.le_refl _
     refine Ak rfl (fun K hK=> ?_)
     go_simp
     rw [←hw8,←hb7]
     clear hw8 hb7
     refine hK.out _ _ (by exact HSk.out _ hka8) ?_
     clear hK K
     try simp only [aps]
     repeat ((first|refine Ai rfl (by rfl) ?_|refine Af rfl (by rfl) ?_|(refine Ah (v:= ?_) rfl (by rfl) ?_ ?_;rotate_left;(· intro w' hSw;unfold acT9 tbS at hSw;go_simp;(try with_reducible rfl));rotate_right));try simp only [aps])
     have hrd8:=hrd.keeps hkA (by simp)
     refine Ak rfl (fun K hK=> ?_)
     go_simp
     go_at_call 37
     ((with_reducible refine(Hrun.out w8 hka8 ae ce hrd8).mono ?_);intro e w5 hpo)
     obtain⟨vb2,cr2,du2,vr2,vo2,z2,rfl,hi2,hk7,a2,n2,c2,rfl⟩:=run_is hpo
     clear hpo
     dsimp only
     have hkr:Keeps (fun _=>False) W2 w5:=Keeps.nt hka8 hk7
     refine hK.out _ _ (by exact HSk.out _ hkr) ?_
     clear hK K
     try simp only [aps]
     have hz5:=Ad hz8 hk7 (by simp)
     have hl8:=lt_of_block hz8
     repeat ((first|refine Ai rfl (by rfl) ?_|refine Af rfl (by rfl) ?_|(refine Ah (v:= ?_) rfl (by rfl) ?_ ?_;rotate_left;(· intro w' hSw;unfold acT9 tbS at hSw;go_simp;(try with_reducible rfl));rotate_right));try simp only [aps])
     have hlz:=lt_of_block hz5
     have z0:=Aa hz5 0
     have z1:=Aa hz5 1
     have z2':=Aa hz5 2
     have zf0:=Ab hz5 0
     have zf1:=Ab hz5 1
     have zf2:=Ab hz5 2
     obtain⟨hbz,hkz⟩:=store3 hz5 (.slice a2 n2 c2) (.int .i64 cr2) (.int .i64 du2)
     have hk4z:Keeps (fun _=>False) W2 ((((w5).setCell ⟨b7,0,none⟩ (.slice a2 n2 c2)).setCell ⟨b7,1,none⟩ (.int .i64 cr2)).setCell ⟨b7,2,none⟩ (.int .i64 du2)):=Keeps.trans hkr (hkz.mono fun i _ e=> .inr (by have e':i=b7:=e;omega))
     have hrel:CnRun W2 n Z (.pointer (some ⟨b7,0,none⟩)) vr2 vo2 (.int .i64 z2) ((((w5).setCell ⟨b7,0,none⟩ (.slice a2 n2 c2)).setCell ⟨b7,1,none⟩ (.int .i64 cr2)).setCell ⟨b7,2,none⟩ (.int .i64 du2)):=⟨b7,_,_,_,cr2,du2,z2,rfl,rfl,rfl,rfl,hb7l,hk4z,hbz,(hi2.lift hkz hl8 hka8 hb7l),_,_,_,rfl⟩
     exact jY2
   ·obtain⟨w8,hw8⟩:∃x,x=(w3).alloc (.cells #[.slice none 0 0,.int .i64 0,.int .i64 0] 34):=⟨_,rfl⟩
    obtain⟨b7,hb7⟩:∃x,x=(w3).heap.size:=⟨_,rfl⟩
    have hkA:Keeps (fun _=>False) w3 w8:=by rw [hw8];exact Keeps.alloc _ _
    have hz8:(w8).heap[b7]?=some (.cells #[.slice none 0 0,.int .i64 0,.int .i64 0] 34 (0,0)):=by rw [hw8,hb7];exact heap_alloc_new _ _
    have hb7l:W2.heap.size≤b7:=by rw [hb7];exact(hk3).size
    have hka8:Keeps (fun _=>False) W2 w8:=Keeps.nt hk3 hkA
    have hb7B:¬B=b7:=fun e=>by have:=HBl.out;omega
    have hb7w:(w3).heap.size≤b7:=by rw [hb7];exact Nat.le_refl _
    refine Ak rfl (fun K hK=> ?_)
    go_simp
    rw [←hw8,←hb7]
    clear hw8 hb7
    refine hK.out _ _ (by exact HSk.out _ hka8) ?_
    clear hK K
    try simp only [aps]
    repeat ((first|refine Ai rfl (by rfl) ?_|refine Af rfl (by rfl) ?_|(refine Ah (v:= ?_) rfl (by rfl) ?_ ?_;rotate_left;(· intro w' hSw;unfold acT9 tbS at hSw;go_simp;(try with_reducible rfl));rotate_right));try simp only [aps])
    refine Ak rfl (fun K hK=> ?_)
    go_simp
    go_at_call 53
    ((with_reducible refine(Hall.out w8 hka8).mono ?_);rintro e w4 hg)
    obtain⟨v',rfl,hrd,hkg,hng⟩:=hg
    obtain⟨ae,ce,rfl,_⟩:=id hrd
    dsimp only
    have hkn:Keeps (fun _=>False) W2 w4:=Keeps.nt hka8 hkg
    refine hK.out _ _ (by exact HSk.out _ hkn) ?_
    clear hK K
    try simp only [aps]
    have hz4:=Ad hz8 hkg (by simp)
    have hl4:=lt_of_block hz4
    repeat ((first|refine Ai rfl (by rfl) ?_|refine Af rfl (by rfl) ?_|(refine Ah (v:= ?_) rfl (by rfl) ?_ ?_;rotate_left;(· intro w' hSw;unfold acT9 tbS at hSw;go_simp;(try with_reducible rfl));rotate_right));try simp only [aps])
    refine Ak rfl (fun K hK=> ?_)
    go_simp
    go_at_call 37
    ((with_reducible refine(Hrun.out w4 hkn ae ce hrd).mono ?_);intro e w5 hpo)
    obtain⟨vb2,cr2,du2,vr2,vo2,z2,rfl,hi2,hk7,a2,n2,c2,rfl⟩:=run_is hpo
    clear hpo
    dsimp only
    have hkr:Keeps (fun _=>False) W2 w5:=Keeps.nt hkn hk7
    refine hK.out _ _ (by exact HSk.out _ hkr) ?_
    clear hK K
    try simp only [aps]
    have hz5:=Ad hz4 hk7 (by simp)
    repeat ((first|refine Ai rfl (by rfl) ?_|refine Af rfl (by rfl) ?_|(refine Ah (v:= ?_) rfl (by rfl) ?_ ?_;rotate_left;(· intro w' hSw;unfold acT9 tbS at hSw;go_simp;(try with_reducible rfl));rotate_right));try simp only [aps])
    have hlz:=lt_of_block hz5
    have z0:=Aa hz5 0
    have z1:=Aa hz5 1
    have z2':=Aa hz5 2
    have zf0:=Ab hz5 0
    have zf1:=Ab hz5 1
    have zf2:=Ab hz5 2
    obtain⟨hbz,hkz⟩:=store3 hz5 (.slice a2 n2 c2) (.int .i64 cr2) (.int .i64 du2)
    have hk4z:Keeps (fun _=>False) W2 ((((w5).setCell ⟨b7,0,none⟩ (.slice a2 n2 c2)).setCell ⟨b7,1,none⟩ (.int .i64 cr2)).setCell ⟨b7,2,none⟩ (.int .i64 du2)):=Keeps.trans hkr (hkz.mono fun i _ e=> .inr (by have e':i=b7:=e;omega))
    have hrel:CnRun W2 n Z (.pointer (some ⟨b7,0,none⟩)) vr2 vo2 (.int .i64 z2) ((((w5).setCell ⟨b7,0,none⟩ (.slice a2 n2 c2)).setCell ⟨b7,1,none⟩ (.int .i64 cr2)).setCell ⟨b7,2,none⟩ (.int .i64 du2)):=⟨b7,_,_,_,cr2,du2,z2,rfl,rfl,rfl,rfl,hb7l,hk4z,hbz,(hi2.lift hkz hl4 hkn hb7l),_,_,_,rfl⟩
    exact jY2
  obtain⟨b7,vb,vr,vo,cr,du,zz,rfl,rfl,rfl,rfl,hb7,hk7,hbx7,hi7,av,mv,cv,rfl⟩:=hcut
  obtain⟨W7,hW7⟩:∃x,x=wc:=⟨_,rfl⟩
  subst hW7
  have hkw7:=Hkw2.out.nt hk7
  have hb7':=Ad Hb2.out hk7 (by simp)
  clear q1
  cases hi7 with
  |bad hz7=>
   obtain⟨zz,hzz⟩:∃zz,Z.2=zz:=⟨_,rfl⟩
   rw [hzz] at hz7⊢
   have hne:(zz !=0)=true:=by simp [hz7]
   have hc:=te_bad (a:=a) Hd.out Hofz.out (by rw [Hcz.out,hzz];exact hz7)
   rw [Hcz.out,hzz] at hc
   obtain⟨Hzz,Hz7,Hc,Hkw7,Hk7,Hbx7,Hb7'⟩:=hid7 hzz hz7 hc hkw7 hk7 hbx7 hb7';clear hb7' hbx7 hk7 hkw7 hc hz7 hzz
   go_wp2_with fail
   refine(Cb zz _).mono ?_
   rintro e w8 ⟨rfl,hk8⟩
   have hb8:=Ad Hb7'.out hk8 (by simp)
   have hk08:=Hkw7.out.nt hk8
   clear hk8
   obtain⟨Hb8,Hk08⟩:=hid2 hb8 hk08;clear hk08 hb8
   obtain⟨hput1,hput2⟩:=putRow (V:= #[.int .i64 zz,.int .i64 0,.int .i64 0,.int .i64 0,.int .i64 0,.slice none 0 0,.int .i64 0,.int .i64 0,.slice none 0 0,.slice none 0 0,.int .i64 0,.int .i64 0,.int .i64 0,.int .i64 0,.int .i64 0,.slice none 0 0,.int .i64 0,.int .i64 0,.int .i64 0,.bool false]) Hb8.out Hk08.out (Nat.le_refl _)
   obtain⟨Hput1,Hput2⟩:=hid2 hput1 hput2;clear hput2 hput1
   go_wp2_with (refine wpList_store_row rfl 44 (.tmp 4) (.tmp 66) rfl w.heap.size #[.int .i64 zz,.int .i64 0,.int .i64 0,.int .i64 0,.int .i64 0,.slice none 0 0,.int .i64 0,.int .i64 0,.slice none 0 0,.slice none 0 0,.int .i64 0,.int .i64 0,.int .i64 0,.int .i64 0,.int .i64 0,.slice none 0 0,.int .i64 0,.int .i64 0,.int .i64 0,.bool false] rfl rfl 44 #[.int .i64 0,.int .i64 0,.int .i64 0,.int .i64 0,.int .i64 0,.slice none 0 0,.int .i64 0,.int .i64 0,.slice none 0 0,.slice none 0 0,.int .i64 0,.int .i64 0,.int .i64 0,.int .i64 0,.int .i64 0,.slice none 0 0,.int .i64 0,.int .i64 0,.int .i64 0,.bool false] Hb8.out Ar rfl (Br zz 0 0) ?_)
   exact bodyPost_ret (results_cell_row rfl _ _ w.heap.size 44 #[.int .i64 zz,.int .i64 0,.int .i64 0,.int .i64 0,.int .i64 0,.slice none 0 0,.int .i64 0,.int .i64 0,.slice none 0 0,.slice none 0 0,.int .i64 0,.int .i64 0,.int .i64 0,.int .i64 0,.int .i64 0,.slice none 0 0,.int .i64 0,.int .i64 0,.int .i64 0,.bool false] _ _ rfl Hput1.out Tryz.underlying44 rfl Ar) rfl ⟨by rw [Hc.out.1,Hc.out.2.1],by rw [Hc.out.2.2];exact AcPost.same H.out Hput2.out⟩
  | @ok _ _ _ P hz7 g=>
   have hA:=H.out.keep0 hkw7
   obtain⟨hte,htc,htk⟩:=te_ok (a:=a) Hd.out Hofz.out (by rw [Hcz.out];exact hz7)
   have hmo:=Hmo.out hte
   rw [Hcz.out] at htc htk hmo
   obtain⟨adn,cn,hvn,hstm,hPl⟩:=hA.stmN
   obtain⟨ao,co,rfl,hco,hao⟩:=Aj g.out
   obtain⟨ar,cr2,rfl,_,_⟩:=Aj g.rts
   obtain⟨o1,o2,_,_⟩:=walkR_out HZ.out hz7
   obtain⟨n1,hn1⟩:∃n,x.P.length=n:=⟨_,rfl⟩
   obtain⟨n2,hn2⟩:∃n,P.length=n:=⟨_,rfl⟩
   have hn1':a.s.out.length=n1:=by rw [←hn1,←H.out.ns,List.length_map]
   have hn2':Z.1.out.length=n2:=by rw [←hn2,←g.lp,List.length_map]
   rw [hn1',hn2'] at hmo htc
   rw [hn2]
   rw [hn1] at hvn hPl
   rw [hn2] at hco
   have hll:∀y∈P,y.s.lines.length≤1000:=fun y hy=>by
    have h1:y.s∈Z.1.out:=by rw [←g.lp];exact List.mem_map.2 ⟨y,hy,rfl⟩
    have h2:=o1 _ h1
    have h3:=Hn.out.n8
    rw [Ht.out] at h3
    omega
   have hn2l:n2≤300:=by rw [←hn2'];exact o2
   obtain⟨tcv,htcv⟩:∃z,a.tc d=z:=⟨_,rfl⟩
   rw [htcv] at htc
   obtain⟨w8,hw8⟩:∃W,W=(W7.alloc (.cells #[.int .i64 0,.int .i64 0,.int .i64 0,.int .i64 0,.int .i64 0,.slice none 0 0,.int .i64 0,.int .i64 0,.slice none 0 0,.slice none 0 0,.int .i64 0,.int .i64 0,.int .i64 0,.int .i64 0,.int .i64 0,.slice none 0 0,.int .i64 0,.int .i64 0,.int .i64 0,.bool false] 44)).setRow W7.heap.size #[.int .i64 0,.int .i64 0,.int .i64 0,.int .i64 0,.int .i64 0,.slice none 0 0,.int .i64 0,.int .i64 0,.slice none 0 0,.slice none 0 0,.int .i64 0,.int .i64 0,.int .i64 0,.int .i64 0,.int .i64 0,.slice none 0 0,.int .i64 0,.int .i64 0,.int .i64 0,.bool false]:=⟨_,rfl⟩
   obtain⟨b11,hb11⟩:∃b,b=W7.heap.size:=⟨_,rfl⟩
   have hb11l:W7.heap.size≤b11:=by rw [hb11];exact Nat.le_refl _
   have hk8:Keeps (fun _=>False) W7 w8:=by rw [hw8];exact(Keeps.alloc (S:=fun _=>False) W7 (.cells #[.int .i64 0,.int .i64 0,.int .i64 0,.int .i64 0,.int .i64 0,.slice none 0 0,.int .i64 0,.int .i64 0,.slice none 0 0,.slice none 0 0,.int .i64 0,.int .i64 0,.int .i64 0,.int .i64 0,.int .i64 0,.slice none 0 0,.int .i64 0,.int .i64 0,.int .i64 0,.bool false] 44)).trans ((Ca _ _ _).mono fun i _ e=> .inr (by have e':i=W7.heap.size:=e;omega))
   have c15:w8.cell? ⟨B,15,none⟩=some (.slice adn n1 cn):=by rw [←hvn];exact Aa (hA.keep0 hk8).blk 15
   have hblc:=lt_of_block (hA.keep0 hk8).blk
   have hbx8:w8.heap[b11]?=some (.cells #[.int .i64 0,.int .i64 0,.int .i64 0,.int .i64 0,.int .i64 0,.slice none 0 0,.int .i64 0,.int .i64 0,.slice none 0 0,.slice none 0 0,.int .i64 0,.int .i64 0,.int .i64 0,.int .i64 0,.int .i64 0,.slice none 0 0,.int .i64 0,.int .i64 0,.int .i64 0,.bool false] 44 (0,0)):=by rw [hw8,hb11];exact setRow_heap _ _ _ _ _ _ (heap_alloc_new W7 (.cells #[.int .i64 0,.int .i64 0,.int .i64 0,.int .i64 0,.int .i64 0,.slice none 0 0,.int .i64 0,.int .i64 0,.slice none 0 0,.slice none 0 0,.int .i64 0,.int .i64 0,.int .i64 0,.int .i64 0,.int .i64 0,.slice none 0 0,.int .i64 0,.int .i64 0,.int .i64 0,.bool false] 44))
   obtain⟨Hz7,Hk7,Hbx7,Hkw7,Hb7',G,HA,Hte,Htk⟩:=hid9 hz7 hk7 hbx7 hkw7 hb7' g hA hte htk;clear htk hte hA g hb7' hkw7 hbx7 hk7 hz7;obtain⟨Hvn,Hstm,Hn1,Hn2,Hn1',Hn2',Hll,Htcv,Hk8⟩:=hid9 hvn hstm hn1 hn2 hn1' hn2' hll htcv hk8;clear hk8 htcv hll hn2' hn1' hn2 hn1 hstm hvn;obtain⟨Hbx8,O1,Hao⟩:=hid3 hbx8 o1 hao;clear hao o1 hbx8
   go_upto_if 75 with(refine wpList_store_row rfl 44 (.tmp 11) (.tmp 67) rfl W7.heap.size #[.int .i64 0,.int .i64 0,.int .i64 0,.int .i64 0,.int .i64 0,.slice none 0 0,.int .i64 0,.int .i64 0,.slice none 0 0,.slice none 0 0,.int .i64 0,.int .i64 0,.int .i64 0,.int .i64 0,.int .i64 0,.slice none 0 0,.int .i64 0,.int .i64 0,.int .i64 0,.bool false] rfl rfl 44 #[.int .i64 0,.int .i64 0,.int .i64 0,.int .i64 0,.int .i64 0,.slice none 0 0,.int .i64 0,.int .i64 0,.slice none 0 0,.slice none 0 0,.int .i64 0,.int .i64 0,.int .i64 0,.int .i64 0,.int .i64 0,.slice none 0 0,.int .i64 0,.int .i64 0,.int .i64 0,.bool false] (heap_alloc_new W7 _) Ar rfl (Br 0 0 0) ?_;rw [←hw8,←hb11];clear hw8 hb11)
   go_cut [11] (fun p wx=>p=(.pointer (some ⟨b11,0,none⟩))∧wx.heap[b11]?=some (.cells #[.int .i64 0,.int .i64 0,.int .i64 tcv,.int .i64 0,.int .i64 0,.slice none 0 0,.int .i64 0,.int .i64 0,.slice none 0 0,.slice none 0 0,.int .i64 0,.int .i64 0,.int .i64 0,.int .i64 0,.int .i64 0,.slice none 0 0,.int .i64 0,.int .i64 0,.int .i64 0,.bool false] 44 (0,0))∧Keeps (fun _=>False) W7 wx)
   case first=>
    by_cases hlt:n1<n2
    ·have hltI:(n1:Int)<(n2:Int):=by omega
     rw [if_pos hlt] at htc
     subst htc
     have x2:=Aa Hbx8.out 2
     have y2:=Ab Hbx8.out 2
     have xl:=lt_of_block Hbx8.out
     have hz9:=(heap_setCell_same _ _ 2 _ _ (.int .i64 (n2:Int)) Hbx8.out).trans rfl
     have hk9:Keeps (fun _=>False) W7 (w8.setCell ⟨b11,2,none⟩ (.int .i64 (n2:Int))):=Hk8.out.trans ((Keeps.setCell (S:=fun i=>i=b11) _ _ _ rfl).mono fun i _ e=> .inr (by have e':i=b11:=e;omega))
     obtain⟨Hz9,Hk9⟩:=hid2 hz9 hk9;clear hk9 hz9
     go_wp2_with fail
     go_meet
     exact⟨by first|rfl|trivial,Hz9.out,Hk9.out⟩
    ·have hltI:¬(n1:Int)<(n2:Int):=by omega
     rw [if_neg hlt] at htc
     subst htc
     go_wp2_with fail
     go_meet
     exact⟨by first|rfl|trivial,Hbx8.out,Hk8.out⟩
   have Htc:=Lib.hid htc;clear htc
   obtain⟨rfl,hbxz,hkz⟩:=hcut
   have hA2:=HA.out.keep0 hkz
   obtain⟨nI,hnI⟩:∃n,x.I.length=n:=⟨_,rfl⟩
   obtain⟨ai,ci,hvi,_,_⟩:=Aj H.out.iss
   rw [hnI] at hvi
   have hnI1:nI≤300:=by
    have:nI=n1:=by rw [←hnI,←Hn1'.out,←H.out.ok.il,←H.out.is,List.length_map]
    omega
   have htS:∀W,Keeps (fun _=>False) wc W→t12S B (.slice ai nI ci) (.slice adn n1 cn) W:=fun W hW=>by
    have:=t12S.of hA2 hW
    rw [hvi,Hvn.out] at this
    exact this
   have hbl2:=lt_of_block hA2.blk
   clear c15 hblc
   have hvi':=hvi
   obtain⟨Hbxz,Hkz,HA2,HnI,Hvi,HtS⟩:=hid6 hbxz hkz hA2 hnI hvi htS;clear htS hvi hnI hA2 hkz hbxz
   obtain⟨ad9,had9⟩:∃x,x=(if co=n1 then ao else Option.map (fun x=>x.add (n1*9)) ao):=⟨_,rfl⟩
   have hst9:StmsR wc ad9 (n2-n1) (co-n1) (P.drop n1):=by
    rw [had9]
    exact drop_stms (⟨by rw [←Hn2.out];exact(Reads.Bh G.out.out).keeps Hkz.out (by simp),fun y hy=>(Reads.Bh (G.out.ln y hy)).keeps Hkz.out (by simp),Hll.out,Hn2.out⟩:StmsR wc ao n2 co P) hmo
   have hown:=fun W (hW:Keeps (fun _=>False) wc W)=>accOwn_any ad9 (co-n1) (n2-n1) (P.drop n1) W (hst9.keep hW) (by omega)
   obtain⟨Hst9,Hown⟩:=hid2 hst9 hown;clear hown hst9
   go_upto_region 12 with fail
   refine Ce (t12S B (.slice ai nI ci) (.slice adn n1 cn)) 16 (.take 0 (.take 1 (.take 2 (.take 3 (.take 4 (.take 5 (.take 6 (.take 7 (.take 8 (.take 9 (.take 10 (.take 11 (.move 12 (.move 13 (.move 14 (.move 15 (.move 16 .done))))))))))))))))) (by kernel_rfl) (by kernel_rfl) ?_ ?_
   ·exact HtS.out _ (Keeps.drew _)
   intro w9 hs9 hk9
   repeat ((first|refine Ai rfl (by rfl) ?_|refine Af rfl (by rfl) ?_|(refine Ah (v:= ?_) rfl (by rfl) ?_ ?_;rotate_left;(· intro w' hSw;unfold t12S at hSw;go_simp;(try with_reducible rfl));rotate_right));try simp only [aps])
   rw [←had9]
   clear had9
   refine Ak rfl (fun K hK=> ?_)
   go_simp
   go_at_call 46
   ((with_reducible refine(Hown.out w9 hk9).mono ?_);rintro e w10 hg)
   obtain⟨v10,Q,rfl,hp,hq⟩:=hg
   dsimp only
   have hk10:=Keeps.nt hk9 hp.fr.1
   refine hK.out _ _ (by exact HtS.out _ hk10) ?_
   clear hK K
   try simp only [aps]
   obtain⟨aq,cq,rfl,_,_⟩:=Aj hp.row
   obtain⟨nq,hnq⟩:∃n,Q.length=n:=⟨_,rfl⟩
   have hnq1:nq≤300:=by
    have:nq=n2-n1:=by rw [←hnq];have:=congrArg List.length hq;simpa [Hn2.out] using this
    omega
   have hA3:=HA2.out.keep0 hk10
   have hrowI:=hA3.iss
   rw [hvi',HnI.out] at hrowI
   have hrdQ:=Reads.Bh hp.row
   rw [hnq] at hrdQ⊢
   have hbxA:=Ad Hbxz.out hk10 (by simp)
   have hbx7A:=Ad Hbx7.out (Hkz.out.nt hk10) (by simp)
   have hb7A:=Ad Hb7'.out (Hkz.out.nt hk10) (by simp)
   have hkz10:=Hkz.out.nt hk10
   have hqlf:∀y∈Q,∀b,y.v.ownBlock=some b→W2.heap.size≤b:=fun y hy b hb=>by have h1:=hp.lf y hy b hb;have h2:=(Hk7.out.nt (Hkz.out.nt hk9)).size;omega
   have hqln:=hp.ln
   have hone:=SV.one Q
   have hl3:=lt_of_block hA3.blk
   clear hp hs9 hk9
   obtain⟨Hq,Hnq,HbxA,Hbx7A,Hb7A,Hkz10,Hqlf,Hqln,Hone⟩:=hid9 hq hnq hbxA hbx7A hb7A hkz10 hqlf hqln hone;clear hone hqln hqlf hkz10 hb7A hbx7A hbxA hnq hq;obtain⟨HA3,HrdQ,HrowI⟩:=hid3 hA3 hrdQ hrowI;clear hrowI hrdQ hA3
   repeat ((first|refine Ai rfl (by rfl) ?_|refine Af rfl (by rfl) ?_|(refine Ah (v:= ?_) rfl (by rfl) ?_ ?_;rotate_left;(· intro w' hSw;unfold t12S at hSw;go_simp;(try with_reducible rfl));rotate_right));try simp only [aps])
   refine Ak rfl (fun K hK=> ?_)
   refine Bt rfl (.tmp 83) (.tmp 91) 58 rfl 0 42 i0 _ 9 88 Tryz.underlying58 Hi.out Hi0.out Hi1.out Hi2.out rfl (by decide) (.slice ai nI ci) nI _ rfl HrowI.out _ nq _ rfl HrdQ.out Hone.out (by unfold maxLen;omega) (by omega) (Nat.zero_le _) ?_
   intro v14 w14 hown14 hk14 hf14
   obtain⟨a14,c14,rfl,_,_⟩:=Aj hown14
   have hnB14:¬(Value.slice ai nI ci).ownBlock=some B:=fun e=>HA3.out.si B (by rw [hvi'];exact e) (.inl rfl)
   have hb14:=Ad HA3.out.blk hk14 hnB14
   obtain⟨oc,o16⟩:∃v,w14.cell? ⟨B,16,none⟩=some v:=⟨_,(Aa hb14 16).trans rfl⟩
   have of16:=Ab hb14 16
   have ol16:=lt_of_block hb14
   refine hK.out _ _ (by exact(HtS.out _ hk10).keepS hk14 hnB14) ?_
   clear hK K
   try simp only [aps]
   obtain⟨Hb14,Hown14,Hk14,Hf14,Hk10⟩:=hid5 hb14 hown14 hk14 hf14 hk10;clear hk10 hf14 hk14 hown14 hb14
   repeat (refine Cx (v:= ?_) rfl (by rfl) ?_ ?_;rotate_left;(· intro w' hSw;unfold t12S at hSw;go_simp;(try with_reducible rfl));rotate_right;try simp only [aps])
   refine Cr rfl (fun K hK=> ?_)
   go_simp
   refine hK.out _ _ ?_
   clear hK K
   try simp only [aps]
   refine Aw ?_
   obtain⟨sq,hsq⟩:∃s,a.seq=s:=⟨_,rfl⟩
   have hs0:=H.out.ok.s0
   rw [hsq] at hs hs0
   have q1:IntKind.i64.wrap (td+d)=td+d:=IntWalk.i64_in _ ⟨by omega,by omega⟩
   have q2:IntKind.i64.wrap (sq+1)=sq+1:=IntWalk.i64_in _ ⟨by omega,by omega⟩
   obtain⟨W17,hW17⟩:∃W,W=w14.setCell ⟨B,16,none⟩ (.slice a14 (nI+nq) c14):=⟨_,rfl⟩
   have k17:Keeps (fun i=>i=B) w14 W17:=by rw [hW17];exact(Keeps.refl _ _).setB _ _
   have hb17:W17.heap[B]?=some (.cells #[.int .i64 a.t.limit,x.vt,.int .i64 a.t.cyc,.int .i64 a.t.due,.int .i64 a.t.minFixed,.int .i64 a.t.minPart,.int .i64 a.t.start,.int .i64 td,.int .i64 sq,(.pointer (some ⟨x.bl,0,none⟩)),(.pointer (some ⟨x.bb,0,none⟩)),x.vp,.int .i64 a.s.p.cr,.int .i64 a.s.p.du,x.vr,x.vn,.slice a14 (nI+nq) c14,x.va] 89 (0,0)):=by rw [hW17,←hsq,←Htd.out];exact heap_setCell_same _ _ 16 _ _ (.slice a14 (nI+nq) c14) Hb14.out
   rw [←hW17]
   clear hW17 ol16 of16 o16
   have hvilt:∀b,x.vi.ownBlock=some b→b<w.heap.size:=fun b hb=>rowLt H.out.iss hb
   have hsz2:=Hkw2.out.size
   have hb7B:¬b7=B:=fun e=>by have:=HBl.out;omega
   have hBb7:¬B=b7:=fun e=>hb7B e.symm
   have hW7l:=Hk7.out.size
   have hwl:=Hk0.out.size
   have hRB:¬w.heap.size=B:=fun e=>by omega
   have hb11B:¬b11=B:=fun e=>by have:=HBl.out;omega
   have hx7:=Ad (Ad Hbx7A.out Hk14.out (fun e=>by have:=hvilt b7 (by rw [hvi'];exact e);omega)) k17 hb7B
   have hx11:=Ad (Ad HbxA.out Hk14.out (fun e=>by have:=hvilt b11 (by rw [hvi'];exact e);omega)) k17 hb11B
   have hxR:=Ad (Ad Hb7A.out Hk14.out (fun e=>by have:=hvilt _ (by rw [hvi'];exact e);omega)) k17 hRB
   have p0:=Aa hx7 0
   have p1:=Aa hx7 1
   have p2:=Aa hx7 2
   have pl:=lt_of_block hx7
   have d7:=Aa hb17 7
   have d8:=Aa hb17 8
   have d11:=Aa hb17 11
   have d12:=Aa hb17 12
   have d13:=Aa hb17 13
   have d14:=Aa hb17 14
   have d15:=Aa hb17 15
   have f7:=Ab hb17 7
   have f8:=Ab hb17 8
   have f11:=Ab hb17 11
   have f12:=Ab hb17 12
   have f13:=Ab hb17 13
   have f14:=Ab hb17 14
   have f15:=Ab hb17 15
   have fl:=lt_of_block hb17
   have g1:=heap_setCell_same _ _ 7 _ _ (.int .i64 (td+d)) hb17
   have g2:=heap_setCell_same _ _ 11 _ _ (.slice av mv cv) g1
   have g3:=heap_setCell_same _ _ 12 _ _ (.int .i64 Z.1.p.cr) g2
   have g4:=heap_setCell_same _ _ 13 _ _ (.int .i64 Z.1.p.du) g3
   have g5:=heap_setCell_same _ _ 14 _ _ (.slice ar n cr2) g4
   have g6:=heap_setCell_same _ _ 15 _ _ (.slice ao n2 co) g5
   have g7:=heap_setCell_same _ _ 8 _ _ (.int .i64 (sq+1)) g6
   obtain⟨Wf,hWf⟩:∃W,W=((((((W17.setCell ⟨B,7,none⟩ (.int .i64 (td+d))).setCell ⟨B,11,none⟩ (.slice av mv cv)).setCell ⟨B,12,none⟩ (.int .i64 Z.1.p.cr)).setCell ⟨B,13,none⟩ (.int .i64 Z.1.p.du)).setCell ⟨B,14,none⟩ (.slice ar n cr2)).setCell ⟨B,15,none⟩ (.slice ao n2 co)).setCell ⟨B,8,none⟩ (.int .i64 (sq+1)):=⟨_,rfl⟩
   have kf:Keeps (fun i=>i=B) W17 Wf:=by rw [hWf];exact(((((((Keeps.refl _ _).setB _ _).setB _ _).setB _ _).setB _ _).setB _ _).setB _ _).setB _ _
   rw [←hWf] at g7
   have hgf:Wf.heap[B]?=some (.cells #[.int .i64 a.t.limit,x.vt,.int .i64 a.t.cyc,.int .i64 a.t.due,.int .i64 a.t.minFixed,.int .i64 a.t.minPart,.int .i64 a.t.start,.int .i64 (td+d),.int .i64 (sq+1),(.pointer (some ⟨x.bl,0,none⟩)),(.pointer (some ⟨x.bb,0,none⟩)),.slice av mv cv,.int .i64 Z.1.p.cr,.int .i64 Z.1.p.du,.slice ar n cr2,.slice ao n2 co,.slice a14 (nI+nq) c14,x.va] 89 (0,0)):=g7
   have hx11f:=Ad hx11 kf hb11B
   have hxRf:=Ad hxR kf hRB
   have kR:=Ca Wf w.heap.size #[.int .i64 0,.int .i64 0,.int .i64 tcv,.int .i64 0,.int .i64 0,.slice none 0 0,.int .i64 0,.int .i64 0,.slice none 0 0,.slice none 0 0,.int .i64 0,.int .i64 0,.int .i64 0,.int .i64 0,.int .i64 0,.slice none 0 0,.int .i64 0,.int .i64 0,.int .i64 0,.bool false]
   have hxF:=setRow_heap Wf w.heap.size #[.int .i64 0,.int .i64 0,.int .i64 0,.int .i64 0,.int .i64 0,.slice none 0 0,.int .i64 0,.int .i64 0,.slice none 0 0,.slice none 0 0,.int .i64 0,.int .i64 0,.int .i64 0,.int .i64 0,.int .i64 0,.slice none 0 0,.int .i64 0,.int .i64 0,.int .i64 0,.bool false] #[.int .i64 0,.int .i64 0,.int .i64 tcv,.int .i64 0,.int .i64 0,.slice none 0 0,.int .i64 0,.int .i64 0,.slice none 0 0,.slice none 0 0,.int .i64 0,.int .i64 0,.int .i64 0,.int .i64 0,.int .i64 0,.slice none 0 0,.int .i64 0,.int .i64 0,.int .i64 0,.bool false] 44 _ hxRf
   have hvi14:∀b,(Value.slice a14 (nI+nq) c14).ownBlock=some b→x.vi.ownBlock=some b∨w10.heap.size≤b:=fun b hb=>by
    rcases Hf14.out with h1|⟨g',h1,h2⟩
    ·rw [h1] at hb;exact .inl (by rw [hvi'];exact hb)
    ·rw [h1] at hb;simp only [Option.some.injEq] at hb;exact .inr (by omega)
   have hw10l:W2.heap.size≤w10.heap.size:=(Hk7.out.nt Hkz10.out).size
   have hKf:Keeps (TkS B x w W2) w10 (Wf.setRow w.heap.size #[.int .i64 0,.int .i64 0,.int .i64 tcv,.int .i64 0,.int .i64 0,.slice none 0 0,.int .i64 0,.int .i64 0,.slice none 0 0,.slice none 0 0,.int .i64 0,.int .i64 0,.int .i64 0,.int .i64 0,.int .i64 0,.slice none 0 0,.int .i64 0,.int .i64 0,.int .i64 0,.bool false]):=(((Hk14.out.mono fun i _ e=> .inl (.inr (by rw [hvi'];exact e))).trans (k17.mono fun i _ e=> .inl (.inl (.inl e)))).trans (kf.mono fun i _ e=> .inl (.inl (.inl e)))).trans (kR.mono fun i _ e=> .inl (.inr ⟨by have e':i=w.heap.size:=e;omega,by have e':i=w.heap.size:=e;have:=lt_of_block Hb2.out;omega⟩))
   have hri:(Wf.setRow w.heap.size #[.int .i64 0,.int .i64 0,.int .i64 tcv,.int .i64 0,.int .i64 0,.slice none 0 0,.int .i64 0,.int .i64 0,.slice none 0 0,.slice none 0 0,.int .i64 0,.int .i64 0,.int .i64 0,.int .i64 0,.int .i64 0,.slice none 0 0,.int .i64 0,.int .i64 0,.int .i64 0,.bool false]).ownsRow 0 42 9 (.slice a14 (nI+nq) c14) (x.I++Q).length ((x.I++Q).flatMap SV.cells):=by
    rw [List.length_append,HnI.out,Hnq.out,List.flatMap_append]
    refine kR.row (kf.row (k17.row Hown14.out fun b hb e=> ?_) fun b hb e=> ?_) fun b hb e=> ?_
    ·exact jY7
    ·exact jY7
    ·have e':b=w.heap.size:=e
     have:=lt_of_block Hb2.out
     rcases hvi14 b hb with h1|h1
     ·have:=hvilt b h1;omega
     ·omega
   have hpost:=AcAt.ticked (d:=d) H.out (Hkw7.out.nt Hkz10.out) Hkw2.out (Hk7.out.nt Hkz10.out) hKf (by rw [Ht.out];exact HN.out) (by rw [Ht.out,HL1.out,Htd.out];exact HZ.out) Hz7.out (G.out.keep0 Hkz10.out) (by rw [Hn1'.out,Hn2'.out];exact hmo) (by rw [Hq.out,List.map_drop,G.out.lp,Hn1'.out]) Hqln.out Hqlf.out (by rw [Htd.out,hsq,Hn2.out];exact Ad hgf kR (fun e=>hRB e.symm)) hri (Nat.le_refl _) hvi14
   clear g1 g2 g3 g4 g5 g6 g7 hKf hri hvi14 hvilt
   obtain⟨Hsq,K17,Hb17,Hx7,Hx11,HxR,Kf,Hgf,Hx11f⟩:=hid9 hsq k17 hb17 hx7 hx11 hxR kf hgf hx11f;clear hx11f hgf kf hxR hx11 hx7 hb17 k17 hsq;obtain⟨HxRf,KR,HxF,Hpost,HRB,Hb11B⟩:=hid6 hxRf kR hxF hpost hRB hb11B;clear hb11B hRB hpost hxF kR hxRf
   have hc1:=Hte.out
   have hc2:=Htk.out
   have hc3:=Htcv.out
   obtain⟨Hc1,Hc2,Hc3⟩:=hid3 hc1 hc2 hc3;clear hc3 hc2 hc1
   go_upto_region 16 with fail
   rw [←hWf]
   clear hWf p0 p1 p2 pl d7 d8 d11 d12 d13 d14 d15 f7 f8 f11 f12 f13 f14 f15 fl q1 q2
   go_wp2_with (first|(refine wpList_store_row (o:=⟨none,_,_,_,_,_⟩) rfl 44 (.tmp 4) (.tmp 122) rfl w.heap.size #[.int .i64 0,.int .i64 0,.int .i64 tcv,.int .i64 0,.int .i64 0,.slice none 0 0,.int .i64 0,.int .i64 0,.slice none 0 0,.slice none 0 0,.int .i64 0,.int .i64 0,.int .i64 0,.int .i64 0,.int .i64 0,.slice none 0 0,.int .i64 0,.int .i64 0,.int .i64 0,.bool false] rfl rfl 44 #[.int .i64 0,.int .i64 0,.int .i64 0,.int .i64 0,.int .i64 0,.slice none 0 0,.int .i64 0,.int .i64 0,.slice none 0 0,.slice none 0 0,.int .i64 0,.int .i64 0,.int .i64 0,.int .i64 0,.int .i64 0,.slice none 0 0,.int .i64 0,.int .i64 0,.int .i64 0,.bool false] HxRf.out Ar rfl (Br 0 0 tcv) ?_)|(refine wpList_load_row (o:=⟨some 122,_,_,_,_,_⟩) rfl 44 (.tmp 11) rfl b11 rfl 44 #[.int .i64 0,.int .i64 0,.int .i64 tcv,.int .i64 0,.int .i64 0,.slice none 0 0,.int .i64 0,.int .i64 0,.slice none 0 0,.slice none 0 0,.int .i64 0,.int .i64 0,.int .i64 0,.int .i64 0,.int .i64 0,.slice none 0 0,.int .i64 0,.int .i64 0,.int .i64 0,.bool false] _ _ Hx11f.out Tryz.underlying44 rfl Ar ?_))
   exact bodyPost_ret (results_cell_row rfl _ _ w.heap.size 44 #[.int .i64 0,.int .i64 0,.int .i64 tcv,.int .i64 0,.int .i64 0,.slice none 0 0,.int .i64 0,.int .i64 0,.slice none 0 0,.slice none 0 0,.int .i64 0,.int .i64 0,.int .i64 0,.int .i64 0,.int .i64 0,.slice none 0 0,.int .i64 0,.int .i64 0,.int .i64 0,.bool false] _ _ rfl HxF.out Tryz.underlying44 rfl Ar) rfl ⟨by rw [Hc1.out,Hc3.out],by rw [Hc2.out];exact Hpost.out⟩
 ·have hne:(z1 !=0)=true:=by simp [h0]
  have hc:=te_day (a:=a) Hd.out (by rw [Hst.out,Hcd.out,Htd.out,Hz1.out];exact h0)
  clear q1
  obtain⟨Hc,H0⟩:=hid2 hc h0;clear h0 hc
  go_wp2_with fail
  refine(Cb 10 _).mono ?_
  rintro e w3 ⟨rfl,hk3⟩
  have hb3:=Ad Hb2.out hk3 (by simp)
  have hk03:=Hk02.out.nt hk3
  clear hk3
  obtain⟨Hb3,Hk03⟩:=hid2 hb3 hk03;clear hk03 hb3
  obtain⟨hput1,hput2⟩:=putRow (V:= #[.int .i64 10,.int .i64 0,.int .i64 0,.int .i64 0,.int .i64 0,.slice none 0 0,.int .i64 0,.int .i64 0,.slice none 0 0,.slice none 0 0,.int .i64 0,.int .i64 0,.int .i64 0,.int .i64 0,.int .i64 0,.slice none 0 0,.int .i64 0,.int .i64 0,.int .i64 0,.bool false]) Hb3.out Hk03.out (Nat.le_refl _)
  obtain⟨Hput1,Hput2⟩:=hid2 hput1 hput2;clear hput2 hput1
  go_wp2_with (refine wpList_store_row rfl 44 (.tmp 4) (.tmp 41) rfl w.heap.size #[.int .i64 10,.int .i64 0,.int .i64 0,.int .i64 0,.int .i64 0,.slice none 0 0,.int .i64 0,.int .i64 0,.slice none 0 0,.slice none 0 0,.int .i64 0,.int .i64 0,.int .i64 0,.int .i64 0,.int .i64 0,.slice none 0 0,.int .i64 0,.int .i64 0,.int .i64 0,.bool false] rfl rfl 44 #[.int .i64 0,.int .i64 0,.int .i64 0,.int .i64 0,.int .i64 0,.slice none 0 0,.int .i64 0,.int .i64 0,.slice none 0 0,.slice none 0 0,.int .i64 0,.int .i64 0,.int .i64 0,.int .i64 0,.int .i64 0,.slice none 0 0,.int .i64 0,.int .i64 0,.int .i64 0,.bool false] Hb3.out Ar rfl (Br 10 0 0) ?_)
  exact bodyPost_ret (results_cell_row rfl _ _ w.heap.size 44 #[.int .i64 10,.int .i64 0,.int .i64 0,.int .i64 0,.int .i64 0,.slice none 0 0,.int .i64 0,.int .i64 0,.slice none 0 0,.slice none 0 0,.int .i64 0,.int .i64 0,.int .i64 0,.int .i64 0,.int .i64 0,.slice none 0 0,.int .i64 0,.int .i64 0,.int .i64 0,.bool false] _ _ rfl Hput1.out Tryz.underlying44 rfl Ar) rfl ⟨by rw [Hc.out.1,Hc.out.2.1],by rw [Hc.out.2.2];exact AcPost.same H.out Hput2.out⟩
set_option maxHeartbeats 1600000
theorem accDo_tick(B:Nat)(x:AcV)(a:Ac)(c:Cmd)(w:World)(h:AcAt w B x a)(hs:a.seq≤100000)(hk:c.kind=8):
  Calls Tryz.prog 15 #[(.pointer (some ⟨B,0,none⟩)),.agg #[.int .i64 c.kind,.int .i64 c.day,.int .i64 c.tranche,.int .i64 c.amount,.int .i64 c.ref]] w fun e w'=>e= .returned (.agg #[.int .i64 (a.te c.day),.int .i64 0,.int .i64 (a.tc c.day),.int .i64 0,.int .i64 0,.slice none 0 0,.int .i64 0,.int .i64 0,.slice none 0 0,.slice none 0 0,.int .i64 0,.int .i64 0,.int .i64 0,.int .i64 0,.int .i64 0,.slice none 0 0,.int .i64 0,.int .i64 0,.int .i64 0,.bool false])∧AcPost w B x (a.tick c.day) w':=by
 obtain⟨ki,da,tr,am,re⟩:=c
 simp only at hk⊢
 subst hk
 have hti:=fun(W:World) (hW:Keeps (fun _=>False) w W)=>accTick_any B x a da W (h.keep0 hW) hs (fun ht=>Ac.mono h.ok ht)
 unfold TickPost at hti
 obtain⟨te,hte⟩:∃z,a.te da=z:=⟨_,rfl⟩
 obtain⟨tc,htc⟩:∃z,a.tc da=z:=⟨_,rfl⟩
 rw [hte,htc] at hti⊢
 obtain⟨W0,hW0⟩:∃x,x=(w.alloc (.cells #[.int .i64 8,.int .i64 da,.int .i64 tr,.int .i64 am,.int .i64 re] 47)).alloc (.cells #[.int .i64 0,.int .i64 0,.int .i64 0,.int .i64 0,.int .i64 0,.slice none 0 0,.int .i64 0,.int .i64 0,.slice none 0 0,.slice none 0 0,.int .i64 0,.int .i64 0,.int .i64 0,.int .i64 0,.int .i64 0,.slice none 0 0,.int .i64 0,.int .i64 0,.int .i64 0,.bool false] 44):=⟨_,rfl⟩
 have hc0:W0.heap[w.heap.size]?=some (.cells #[.int .i64 8,.int .i64 da,.int .i64 tr,.int .i64 am,.int .i64 re] 47 (0,0)):=by rw [hW0];exact Au (heap_alloc_new w _) _
 have hr0:W0.heap[w.heap.size+1]?=some (.cells #[.int .i64 0,.int .i64 0,.int .i64 0,.int .i64 0,.int .i64 0,.slice none 0 0,.int .i64 0,.int .i64 0,.slice none 0 0,.slice none 0 0,.int .i64 0,.int .i64 0,.int .i64 0,.int .i64 0,.int .i64 0,.slice none 0 0,.int .i64 0,.int .i64 0,.int .i64 0,.bool false] 44 (0,0)):=by rw [hW0];exact Ay _ _ (by simp)
 have hk0:Keeps (fun _=>False) w W0:=by rw [hW0];(repeat (first|exact Keeps.refl _ _|exact Keeps.alloc _ _|exact Keeps.drew _|exact Keeps.drewN _ _|refine Keeps.Ap ?_|refine Keeps.Al ?_|refine Keeps.Ae ?_))
 obtain⟨H,Hti,Hte,Htc,Hc0,Hr0,Hk0⟩:=hid7 h hti hte htc hc0 hr0 hk0;clear hk0 hr0 hc0 htc hte hti h
 go_enter Tryz.func15,Tryz.ntmps15
 go_wp2_with fail
 rw [←hW0]
 clear hW0
 refine(Hti.out W0 Hk0.out).mono ?_
 rintro e w2 ⟨rfl,hp⟩
 obtain⟨hR,hq⟩:=AcPost.ret (V:= #[.int .i64 te,.int .i64 0,.int .i64 tc,.int .i64 0,.int .i64 0,.slice none 0 0,.int .i64 0,.int .i64 0,.slice none 0 0,.slice none 0 0,.int .i64 0,.int .i64 0,.int .i64 0,.int .i64 0,.int .i64 0,.slice none 0 0,.int .i64 0,.int .i64 0,.int .i64 0,.bool false]) H.out Hk0.out hp Hr0.out (Nat.le_succ _)
 have hput:=setRow_heap w2 (w.heap.size+1) #[.int .i64 0,.int .i64 0,.int .i64 0,.int .i64 0,.int .i64 0,.slice none 0 0,.int .i64 0,.int .i64 0,.slice none 0 0,.slice none 0 0,.int .i64 0,.int .i64 0,.int .i64 0,.int .i64 0,.int .i64 0,.slice none 0 0,.int .i64 0,.int .i64 0,.int .i64 0,.bool false] #[.int .i64 te,.int .i64 0,.int .i64 tc,.int .i64 0,.int .i64 0,.slice none 0 0,.int .i64 0,.int .i64 0,.slice none 0 0,.slice none 0 0,.int .i64 0,.int .i64 0,.int .i64 0,.int .i64 0,.int .i64 0,.slice none 0 0,.int .i64 0,.int .i64 0,.int .i64 0,.bool false] 44 _ hR
 clear hp
 obtain⟨HR,Hq,Hput⟩:=hid3 hR hq hput;clear hput hq hR
 go_wp2_with (refine wpList_store_row rfl 44 (.tmp 4) (.tmp 15) rfl (w.heap.size+1) #[.int .i64 te,.int .i64 0,.int .i64 tc,.int .i64 0,.int .i64 0,.slice none 0 0,.int .i64 0,.int .i64 0,.slice none 0 0,.slice none 0 0,.int .i64 0,.int .i64 0,.int .i64 0,.int .i64 0,.int .i64 0,.slice none 0 0,.int .i64 0,.int .i64 0,.int .i64 0,.bool false] rfl rfl 44 #[.int .i64 0,.int .i64 0,.int .i64 0,.int .i64 0,.int .i64 0,.slice none 0 0,.int .i64 0,.int .i64 0,.slice none 0 0,.slice none 0 0,.int .i64 0,.int .i64 0,.int .i64 0,.int .i64 0,.int .i64 0,.slice none 0 0,.int .i64 0,.int .i64 0,.int .i64 0,.bool false] HR.out Ar rfl (Br _ _ _) ?_)
 exact bodyPost_ret (results_cell_row rfl _ _ (w.heap.size+1) 44 #[.int .i64 te,.int .i64 0,.int .i64 tc,.int .i64 0,.int .i64 0,.slice none 0 0,.int .i64 0,.int .i64 0,.slice none 0 0,.slice none 0 0,.int .i64 0,.int .i64 0,.int .i64 0,.int .i64 0,.int .i64 0,.slice none 0 0,.int .i64 0,.int .i64 0,.int .i64 0,.bool false] _ _ rfl Hput.out Tryz.underlying44 rfl Ar) rfl ⟨rfl,Hq.out⟩
theorem repErr_at{t:Tm}{L:List Ev}{td:Int}(hz:t.err=0)(hL:∀x∈L,evErr t x=0∧x.day≤td)(hl:L.length≤2000)(hd:t.start≤td∧td≤2932896)(ho:ofE t.start t.cyc td=0):repErr t L td=0:=by
 exact jY3
theorem sorted_same{L:List Ev}{d:Int}(h:∀x∈L,x.day=d):Sorted L:=by
 unfold Sorted
 rw [List.pairwise_iff_forall_sublist]
 intro x y hs
 have h1:=h x (hs.subset (by simp))
 have h2:=h y (hs.subset (by simp))
 omega
theorem putL_last{L:List Ev}{e:Ev}(h:Sorted (L++ [e])):putL L e=L++ [e]:=by
 have h1:Sorted L:=by unfold Sorted at h⊢;exact(List.pairwise_append.1 h).1
 have h2:=sortL_snoc L e
 rw [sortL_id h,sortL_id h1] at h2
 exact h2.symm
theorem evR_snoc{d:Int}{e:Ev}(hd:e.day=d):∀(L:List Ev) (i:Nat) (p q:Ps) (R S:List Int),(∀x∈L,x.day=d)→evR d L i p R=(i+L.length,q,S,0)→(applyR q S e).2.2=0→evR d (L++ [e]) i p R=(i+(L.length+1),(applyR q S e).1,(applyR q S e).2.1,0)
 | [],i,p,q,R,S,_,h,ha=>by
  simp only [evR,Prod.mk.injEq] at h
  obtain⟨_,rfl,rfl,_⟩:=h
  simp only [List.nil_append,evR]
  rw [if_pos hd,if_pos ha]
  rfl
 |x::L,i,p,q,R,S,hL,h,ha=>by
  have hx:=hL x (List.mem_cons_self ..)
  rw [List.cons_append]
  unfold evR at h⊢
  rw [if_pos hx] at h⊢
  split
  ·rename_i h0
   rw [if_pos h0] at h
   have:=evR_snoc hd L (i+1) _ q _ S (fun y hy=>hL y (List.mem_cons_of_mem _ hy)) (by rw [h];simp only [List.length_cons,Prod.mk.injEq,and_true];omega) ha
   rw [this]
   simp only [List.length_cons,Prod.mk.injEq,and_true]
   omega
  ·rename_i h0
   rw [if_neg h0] at h
   simp only [Prod.mk.injEq] at h
   exact absurd h.2.2.2 h0
structure Day0(a:Ac)(t:Tm)(p:Ps)(R:List Int):Prop where
 tt:a.t=t
 td:a.today=t.start
 ev:∀x∈a.L,evErr t x=0∧x.day=t.start
 ll:a.L.length≤100
 rn:evR t.start a.L 0 (st0 t).p (st0 t).R=(0+a.L.length,p,R,0)
 s:a.s=evSt (st0 t) (a.L.length,p,R,0)
 rp:repErr t [] t.start=0
theorem Day0.new{t:Tm}(h:repErr t [] t.start=0):Day0 (acNew t) t (st0 t).p (st0 t).R:=⟨rfl,rfl,by simp [acNew],by simp [acNew],rfl,rfl,h⟩
theorem Day0.pos{a:Ac}{t:Tm}{p:Ps}{R:List Int}(h:Day0 a t p R):a.s.p=p∧a.s.R=R∧a.s.out= []:=by rw [h.s];exact⟨rfl,rfl,rfl⟩
theorem Day0.step{a:Ac}{t:Tm}{p p':Ps}{R R':List Int}{e:Ev}(h:Day0 a t p R)(hl:a.L.length≤50)(he:evErr t e=0)(hd:e.day=t.start)(ha:applyR p R e=(p',R',0)):
  a.ce e=0∧(∀D,Day0 { a.count e with D:=D } t p' R')∧(a.count e).seq=a.seq+1∧(a.count e).L.length=a.L.length+1:=by
 have hz:=(Ct h.rp).tm
 have hr:=Ct h.rp
 have hev:∀x∈a.L++ [e],evErr t x=0∧x.day=t.start:=fun x hx=>by
  rcases List.mem_append.1 hx with hx|hx
  ·exact h.ev x hx
  ·obtain rfl:x=e:=by simpa using hx
   exact⟨he,hd⟩
 have hso:Sorted (a.L++ [e]):=sorted_same fun x hx=>(hev x hx).2
 have hpu:=putL_last hso
 have hrp:repErr t (a.L++ [e]) t.start=0:=repErr_at hz (fun x hx=>⟨(hev x hx).1,by rw [(hev x hx).2];exact Int.le_refl _⟩) (by simp;omega) ⟨Int.le_refl _,hr.d1⟩ (repErr_of h.rp)
 have hrn:=evR_snoc hd a.L 0 _ p _ R (fun x hx=>(h.ev x hx).2) h.rn (by rw [ha])
 rw [ha] at hrn
 have hcz:a.cz e=(evSt (st0 t) (a.L.length+1,p',R',0),0):=by
  unfold Ac.cz walkR
  rw [hpu,h.tt,h.td,if_pos hrp,sortL_id hso,show(t.start-t.start).toNat=0 by omega]
  unfold walkD
  show(evSt (st0 t) (evR t.start (a.L++ [e]) 0 (st0 t).p (st0 t).R),(evR t.start (a.L++ [e]) 0 (st0 t).p (st0 t).R).2.2.2)=_
  rw [hrn,Nat.zero_add]
 have hadd:addErr a.t a.L e=0:=by unfold addErr;rw [h.tt,he,if_neg (by decide),if_neg (by omega)]
 have hout:=h.pos.2.2
 have hcb:a.cb e=(0, []):=by unfold Ac.cb;rw [hcz,hout];rfl
 have hg:=ce_good hadd (by rw [hcz]) (by rw [hcb])
 refine⟨hg.1,fun D=> ?_,by rw [hg.2],by rw [hg.2];show(putL a.L e).length=_;rw [putL_length]⟩
 rw [hg.2,hpu,hcz]
 exact⟨h.tt,h.td,hev,by simp;omega,by simpa using hrn,by simp,h.rp⟩
theorem Day0.chg{a:Ac}{t:Tm}{p p':Ps}{R R':List Int}{c:Cmd}(h:Day0 a t p R)(hl:a.L.length≤50)(hk:c.kind≠6)(hz:a.xz c=0)(he:evErr t (a.xev c)=0)(hd:(a.xev c).day=t.start)(ha:applyR p R (a.xev c)=(p',R',0)):
  a.xe c=0∧Day0 (a.chg c) t p' R'∧(a.chg c).seq=a.seq+1∧(a.chg c).D=a.xD c∧(a.chg c).L.length=a.L.length+1:=by
 obtain⟨h1,h2,h3,h4⟩:=h.step hl he hd ha
 have hx:a.xe c=0:=by rw [Ac.xe_cnt hz hk];exact h1
 have hc:=(Ac.chg_yes hx).1
 have hn:a.nx c=a.count (a.xev c):=by unfold Ac.nx;rw [if_neg hk]
 rw [hn] at hc
 rw [hc]
 exact⟨hx,h2 _,h3,rfl,h4⟩
theorem evErr22{ki day tr m re:Int}(hk:1≤ki∧ki≤6)(ht:(ki=2∧tr=0)∨(¬ki=2∧1≤tr∧tr≤2))(hm:(ki=6∧0≤m∧m≤10000000)∨(¬ki=6∧1≤m∧m≤1000000000000000))(hd:10957≤day∧day≤2932896)(hr:((ki=4∨ki=5)∧1≤re∧re≤2000)∨(¬(ki=4∨ki=5)∧re=0)):evErr t22 ⟨ki,day,tr,m,re⟩=0:=by
 have hst:t22.start=10957:=rfl
 have hln:(t22.trs.length:Int)=2:=rfl
 unfold evErr
 rw [if_neg (by rw [show t22.err=0 by decide+kernel];simp),if_neg (by show¬(ki<1∨6<ki);omega),if_neg (by show¬((ki=2∧¬tr=0)∨(¬ki=2∧(tr<1∨(t22.trs.length:Int)<tr)));rw [hln];omega),
  if_neg (by show¬((ki=6∧(m<0∨10000000<m))∨(¬ki=6∧(m<1∨1000000000000000<m)));omega),if_neg (by show¬(day<t22.start∨2932896<day);rw [hst];omega),
  if_neg (by show¬(((ki=4∨ki=5)∧(re<1∨2000<re))∨(¬(ki=4∨ki=5)∧¬re=0));omega)]
def p22(a b c:Int):Ps:=⟨[a,b],c,0⟩
theorem day22:Day0 (acNew t22) t22 (p22 0 0 0) [500000,900000]:=Day0.new rep22
theorem Day0.owes{a:Ac}{x y c:Int}{R:List Int}(h:Day0 a t22 (p22 x y c) R):a.owes=x+y-c:=by unfold Ac.owes;rw [h.pos.1];simp only [p22,sumI];omega
theorem ee_num{a:Ac}{k d tr am re:Int}{x y c:Int}{R:List Int}(h:Day0 a t22 (p22 x y c) R)(ht:k=2∨(1≤tr∧tr≤2))(hm:(k=7∧0≤am∧am≤10000000)∨(¬k=7∧1≤am∧am≤1000000000000000)):
  a.ee ⟨k,d,tr,am,re⟩=if k=1 then(if 1000<x+y-c+am then 9 else 0) else if k=3 then(if d<10957∨10957<d then 10 else if a.oldB d=true then 11 else 0) else if k=4 then(if [x,y].getD (tr-1).toNat 0<am then 9 else Ch a.D tr am) else 0:=by
 have hlen:(a.t.trs.length:Int)=2:=by rw [h.tt];rfl
 rw [Ac.ee_in (c:=⟨k,d,tr,am,re⟩) (ht.imp id fun e=>by rw [hlen];exact e) hm,h.owes,h.tt,h.td,h.pos.1]
 rfl
theorem Day0.draw{a:Ac}{x y c tr am x' y' c':Int}(h:Day0 a t22 (p22 x y c) [500000,900000])(hl:a.L.length≤50)(ht:(tr=1∧x'=x+(am-minI am c)∧y'=y)∨(tr=2∧x'=x∧y'=y+(am-minI am c)))(hc:c'=c-minI am c)(hm:1≤am∧am≤1000000000000000)(hb:x+y-c+am≤1000)
  (hp:Ps.rightB (p22 x y c)=true) (hq:Ps.rightB (p22 x' y' c')=true):
  a.xe ⟨1,0,tr,am,0⟩=0∧a.xr ⟨1,0,tr,am,0⟩=0∧Day0 (a.chg ⟨1,0,tr,am,0⟩) t22 (p22 x' y' c') [500000,900000]∧(a.chg ⟨1,0,tr,am,0⟩).seq=a.seq+1∧(a.chg ⟨1,0,tr,am,0⟩).D=a.D∧(a.chg ⟨1,0,tr,am,0⟩).L.length=a.L.length+1:=by
 have hee:a.ee ⟨1,0,tr,am,0⟩=0:=by rw [ee_num h (by omega) (.inr ⟨by decide,hm⟩),if_pos rfl,if_neg (by omega)]
 have hxz:a.xz ⟨1,0,tr,am,0⟩=0:=by unfold Ac.xz;rw [if_neg (by show¬((1:Int)=5∨(1:Int)=6);decide)];exact hee
 have hxv:a.xev ⟨1,0,tr,am,0⟩=⟨1,10957,tr,am,0⟩:=by
  unfold Ac.xev
  rw [if_neg (by show¬((1:Int)=5∨(1:Int)=6);decide),Ac.ee_yes hee,h.td]
  rfl
 have hxD:a.xD ⟨1,0,tr,am,0⟩=a.D:=by unfold Ac.xD;rw [if_neg (by show¬((1:Int)=5∨(1:Int)=6);decide)];exact Ac.eD_no (by show(1:Int)≠4;decide)
 obtain⟨h1,h2,h3,h4,h5⟩:=h.chg (c:=⟨1,0,tr,am,0⟩) hl (by show(1:Int)≠6;decide) hxz (by rw [hxv];exact evErr22 (by omega) (by omega) (.inr ⟨by decide,hm⟩) (by decide) (.inr ⟨by decide,rfl⟩)) (by rw [hxv];rfl) (by rw [hxv];exact charge2 hp (by decide) (by decide) (.inl rfl) ⟨by omega,hm.2⟩ ht hc hq)
 exact⟨h1,by rw [(Ac.chg_yes h1).2,if_neg (by show¬(1:Int)=4;decide)],h2,h3,by rw [h4,hxD],h5⟩
theorem right22{a b c:Int}(ha:0≤a∧a≤1000000)(hb:0≤b∧b≤1000000)(hc:0≤c∧c≤1000000)(h0:c=0∨a+b=0):Ps.rightB (p22 a b c)=true:=right2 ha.1 hb.1 (by omega) (by omega) (by omega) h0
theorem find_far{cd:Int}(hc:1≤cd∧cd≤28){day:Int}(hd:day≤100000):∀(f:Nat) (fr:Int), -135140≤fr→fr≤day→dD fr=cd→day<fr+28*f→(findW cd day f fr).2=true:=by
 intro f
 induction f with
 |zero=>intro fr h0 h1 h2 h3;omega
 |succ f ih=>
  intro fr h0 h1 h2 h3
  have hge:=lastF_ge (fr:=fr) (cd:=cd) h0 (by omega) hc.1 hc.2
  have hF:fr+27≤lastF fr cd:=by
   have hi:=date_is h0 (by omega:fr≤2932896)
   unfold lastF
   rw [h2,if_pos (by omega)]
   have:28≤mlen (dY fr) (dM fr):=by
    have m0:=hi.m0
    have m1:=hi.m1
    unfold mlen
    split
    ·split<;>omega
    ·split
     ·omega
     ·rw [if_pos ⟨m0,m1⟩];omega
   omega
  have he:lastE fr cd=0:=by
   exact jY9
  by_cases hl:lastF fr cd<day
  ·have hy:=lastF_yes (fr:=fr) (cd:=cd) h0 (by omega) hc.1 hc.2 (by omega)
   have:=ih (lastF fr cd+1) (by omega) (by omega) hy (by omega)
   rw [findW_go he ⟨hl,by omega⟩]
   exact this
  ·rw [findW_stop he (by omega)]
   simp
   omega
theorem ofE_far{st cd day:Int}(hc:1≤cd∧cd≤28)(h0: -135140≤st)(h1:st≤day)(h2:day≤100000)(h3:day<st+8000):ofE st cd day=0∧(findW cd day 300 st).2=true:=by
 have hge:=lastF_ge (fr:=st) (cd:=cd) h0 (by omega) hc.1 hc.2
 have he:lastE st cd=0:=by
  exact jY9
 have hf:(findW cd day 300 st).2=true:=by
  by_cases hl:lastF st cd<day
  ·have hy:=lastF_yes (fr:=st) (cd:=cd) h0 (by omega) hc.1 hc.2 (by omega)
   rw [findW_go he ⟨hl,by omega⟩]
   exact find_far hc h2 299 (lastF st cd+1) (by omega) (by omega) hy (by omega)
  ·rw [findW_stop he (by omega)]
   simp
   omega
 refine⟨?_,hf⟩
 unfold ofE
 rw [if_pos he,if_pos hf]
theorem evR_stop{day:Int}{M:List Ev}{i:Nat}{p:Ps}{R:List Int}(h:∀x∈M,¬x.day=day):evR day M i p R=(i,p,R,0):=by
 cases M with
 |nil=>rfl
 |cons e M=>unfold evR;rw [if_neg (h e (List.mem_cons_self ..))]
inductive SpanN (day:Int):Int→List (Int×Int)→List (Int×Int)→Prop
 |same {fr te:Int}:SpanOk fr te→fr≤day→day+1≤te→SpanN day fr [(fr,te)] [(fr,te)]
 |next {fr te te2:Int}:SpanOk fr te→fr≤day→day=te→SpanOk (te+1) te2→SpanN day fr [(fr,te)] [(fr,te),(te+1,te2)]
 |more {fr te:Int} {S S2:List (Int×Int)}:SpanOk fr te→te<day→SpanN day (te+1) S S2→SpanN day fr ((fr,te)::S) ((fr,te)::S2)
theorem SpanN.head{day fr:Int}{S S2:List (Int×Int)}(h:SpanN day fr S S2):∃te S' S2',S=(fr,te)::S'∧S2=(fr,te)::S2'∧SpanOk fr te∧fr≤day∧(te<day→SpanN day (te+1) S' S2'):=by
 cases h with
 |same h1 h2 h3=>exact⟨_,_,_,rfl,rfl,h1,h2,fun h=>by omega⟩
 |next h1 h2 h3 h4=>exact⟨_,_,_,rfl,rfl,h1,h2,fun h=>by omega⟩
 |more h1 h2 h3=>exact⟨_,_,_,rfl,rfl,h1,by have:=h1.le;omega,fun _=>h3⟩
theorem find_next(cd day:Int):∀(f f2:Nat) (fr:Int),(findW cd day f fr).2=true→(findW cd (day+1) f2 fr).2=true→SpanN day fr (findW cd day f fr).1 (findW cd (day+1) f2 fr).1:=by
 intro f
 induction f with
 |zero=>intro f2 fr h;cases h
 |succ f ih=>
  intro f2 fr h h2
  cases f2 with
  |zero=>cases h2
  |succ f2=>
   by_cases hl:lastE fr cd=0
   ·obtain⟨c1,c2,g1,g2,g3,g4⟩:=lastE_ok hl
    have hge:=lastF_ge (fr:=fr) (cd:=cd) g1 g2 c1 c2
    have hok:SpanOk fr (lastF fr cd):=⟨g1,hge.1,g3,hge.2⟩
    by_cases hd:lastF fr cd<day∧f≠0
    ·rw [findW_go hl hd] at h⊢
     by_cases hd2:lastF fr cd<day+1∧f2≠0
     ·rw [findW_go hl hd2] at h2⊢
      exact .more hok hd.1 (ih f2 _ h h2)
     ·rw [findW_stop hl hd2] at h2
      simp at h2
      omega
    ·rw [findW_stop hl hd] at h⊢
     simp only [Bool.and_eq_true,decide_eq_true_eq] at h
     by_cases hd2:lastF fr cd<day+1∧f2≠0
     ·rw [findW_go hl hd2] at h2⊢
      simp only at h2
      have he:lastF fr cd=day:=by omega
      cases f2 with
      |zero=>exact absurd rfl hd2.2
      |succ f2=>
       by_cases hl2:lastE (lastF fr cd+1) cd=0
       ·obtain⟨_,_,e1,e2,e3,e4⟩:=lastE_ok hl2
        have hge2:=lastF_ge (fr:=lastF fr cd+1) (cd:=cd) e1 e2 c1 c2
        have hns:¬(lastF (lastF fr cd+1) cd<day+1∧f2≠0):=by omega
        rw [findW_stop hl2 hns] at h2⊢
        exact .next hok h.1 he.symm ⟨e1,hge2.1,e3,hge2.2⟩
       ·rw [findW_bad hl2] at h2;cases h2
     ·rw [findW_stop hl hd2] at h2⊢
      simp only [Bool.and_eq_true,decide_eq_true_eq] at h2
      exact .same hok h.1 h2.2
   ·rw [findW_bad hl] at h;cases h
theorem goes_on{t:Tm}{T:List Ev}(hz:t.err=0):∀(d:Nat) (S S2:List (Int×Int)) (s:St) (len:Nat) (Z1 Z2:St×Int) (fr:Int),SpanN (s.day+d) fr S S2→(∀x∈T,x.day≤s.day+d)→(∀te S',S=(fr,te)::S'→s.day≤te)→StOk t.trs.length s len→
  walkD t T t.trs.length d S s=Z1→Z1.2=0→walkD t T t.trs.length (d+1) S2 s=Z2→Z2.2=0→
  Z1.1.out.length+1=s.out.length+S.length∧Z2.1.out.length+1=s.out.length+S2.length∧((Z2.1.out=Z1.1.out∧Z2.1.p=Z1.1.p)∨∃X,Z2.1.out=Z1.1.out++ [X]):=by
 intro d
 induction d with
 |zero=>
  intro S S2 s len Z1 Z2 fr hS hT hte hst h1 z1 h2 z2
  obtain⟨te,S',S2',rfl,rfl,hok,hfr,hmo⟩:=hS.head
  have hdt:=hte te S' rfl
  subst h1
  unfold walkD at z1⊢
  have hev:=(hst.ev z1)
  unfold walkD at h2
  rw [if_pos z1] at h2
  simp only at h2
  have hno:∀(i:Nat),∀x∈T.drop i,¬x.day=s.day+1:=fun i x hx e=>by have:=hT x (List.mem_of_mem_drop hx);omega
  by_cases hcl:te=s.day
  ·rw [if_pos hcl] at h2
   cases hS with
   |same _ _ h5=>omega
   |more _ h5 _=>omega
   |next _ _ _ h6=>
    split at h2
    ·subst h2;cases z2
    ·rename_i s2 hc
     obtain⟨x,e1,_⟩:=closeS_lines hz rfl hev.fin hc
     subst h2
     unfold walkD
     have e1':s2.out=s.out++ [x]:=e1
     refine⟨rfl, ?_,.inr ⟨x, ?_⟩⟩
     ·show s2.out.length+1=_
      rw [e1',List.length_append];rfl
     ·show s2.out=_
      rw [e1'];rfl
  ·rw [if_neg hcl] at h2
   cases hS with
   |next _ _ h5 _=>omega
   |more _ h5 _=>omega
   |same _ _ _=>
    subst h2
    unfold walkD
    refine⟨rfl,rfl,.inl ⟨rfl, ?_⟩⟩
    have:=evR_stop (i:=(evR s.day (T.drop s.i) s.i s.p s.R).1) (p:=(evR s.day (T.drop s.i) s.i s.p s.R).2.1) (R:=(evR s.day (T.drop s.i) s.i s.p s.R).2.2.1) (hno (evR s.day (T.drop s.i) s.i s.p s.R).1)
    simp only [endSt,evSt]
    rw [this]
 |succ d ih=>
  intro S S2 s len Z1 Z2 fr hS hT hte hst h1 z1 h2 z2
  obtain⟨te,S',S2',rfl,rfl,hok,hfr,hmo⟩:=hS.head
  have hdt:=hte te S' rfl
  unfold walkD at h1 h2
  by_cases h0:(evR s.day (T.drop s.i) s.i s.p s.R).2.2.2=0
  ·rw [if_pos h0] at h1 h2
   simp only at h1 h2
   have hf:=(hst.ev h0).fin
   by_cases hcl:te=s.day
   ·rw [if_pos hcl] at h1 h2
    split at h1
    ·subst h1;cases z1
    ·rename_i s2 hc
     rw [hc] at h2
     simp only at h2
     obtain⟨x,e1,_⟩:=closeS_lines hz rfl hf hc
     obtain⟨k1,k2,k3,k4⟩:=closeS_ok hz rfl hf hc
     have hn:=hmo (by omega)
     obtain⟨te',S3,S4,rfl,rfl,hok',hfr',_⟩:=hn.head
     have hst2:StOk t.trs.length { s2 with day:=s.day+1 } 0:=⟨k1.pr,k1.nb,k1.nr,k1.rt,k1.n0,k1.n1,k1.m0,k1.m1⟩
     have hq:=ih _ _ _ 0 Z1 Z2 (te+1) (by show SpanN (s.day+1+d) _ _ _;rw [show s.day+1+(d:Int)=s.day+((d+1:Nat):Int) by omega];exact hn) (fun x hx=>by have:=hT x hx;show x.day≤s.day+1+d;omega) (fun te2 S5 e=>by injection e with e _;injection e with _ e;subst e;have:=hok'.le;show s.day+1≤te';omega) hst2 h1 z1 h2 z2
     have hl:({ s2 with day:=s.day+1 }:St).out.length=s.out.length+1:=by show s2.out.length=_;exact k2
     rw [hl] at hq
     simp only [List.length_cons] at hq⊢
     exact⟨by omega,by omega,hq.2.2⟩
   ·rw [if_neg hcl] at h1 h2
    obtain⟨s3,hs3⟩:∃s3:St,s3={ endSt (evSt s (evR s.day (T.drop s.i) s.i s.p s.R)) t.trs.length t.trs.length with day:=s.day+1 }:=⟨_,rfl⟩
    have h1':walkD t T t.trs.length d ((fr,te)::S') s3=Z1:=by rw [hs3];exact h1
    have h2':walkD t T t.trs.length (d+1) ((fr,te)::S2') s3=Z2:=by rw [hs3];exact h2
    have hk:StOk t.trs.length s3 (len+1):=by rw [hs3];exact⟨hf.pr,hf.nb,hf.nr,hf.rt,hf.n0,hf.n1,hf.m0,hf.m1⟩
    have hday:s3.day=s.day+1:=by rw [hs3]
    have ho:s3.out=s.out:=by rw [hs3];rfl
    have hq:=ih _ _ s3 (len+1) Z1 Z2 fr (by rw [hday,show s.day+1+(d:Int)=s.day+((d+1:Nat):Int) by omega];exact hS) (fun x hx=>by have:=hT x hx;rw [hday];omega) (fun te2 S5 e=>by injection e with e _;injection e with _ e;subst e;rw [hday];omega) hk h1' z1 h2' z2
    rw [ho] at hq
    exact hq
  ·rw [if_neg h0] at h1
   subst h1
   exact absurd z1 h0
theorem repErr_play{t:Tm}{L:List Ev}{td:Int}(hz:t.err=0)(hL:∀x∈L,evErr t x=0∧x.day≤td)(hl:L.length≤2000)(h0:t.start≤td)(h1:td≤100000)(h2:td<t.start+8000):repErr t L td=0:=by
 obtain⟨_,_,hc,_,_,_,hst⟩:=tm_nums hz
 obtain⟨ho,_⟩:=ofE_far (st:=t.start) (day:=td) hc (by omega) h0 h1 h2
 exact jY3
theorem walkR_goes{t:Tm}{L:List Ev}{td:Int}(hz:t.err=0)(hL:∀x∈L,evErr t x=0∧x.day≤td)(hl:L.length≤2000)(h0:t.start≤td)(h1:td≤90000)(h2:td<t.start+7000)(e1:(walkR t L td).2=0)(e2:(walkR t L (td+1)).2=0):
  ((walkR t L (td+1)).1.out.length:Int)=ofV t.start t.cyc (td+1)-1∧(((walkR t L (td+1)).1.out=(walkR t L td).1.out∧(walkR t L (td+1)).1.p=(walkR t L td).1.p)∨∃X,(walkR t L (td+1)).1.out=(walkR t L td).1.out++ [X]):=by
 obtain⟨_,_,hc,_,_,_,hst⟩:=tm_nums hz
 obtain⟨o1,f1⟩:=ofE_far (st:=t.start) (day:=td) hc (by omega) h0 (by omega) (by omega)
 obtain⟨o2,f2⟩:=ofE_far (st:=t.start) (day:=td+1) hc (by omega) (by omega) (by omega) (by omega)
 have r1:=repErr_play hz hL hl h0 (by omega) (by omega)
 have r2:=repErr_play (td:=td+1) hz (fun x hx=>⟨(hL x hx).1,by have:=(hL x hx).2;omega⟩) hl (by omega) (by omega) (by omega)
 have a1:allL t.start t.cyc td=(findW t.cyc td 300 t.start).1:=by unfold allL;rw [if_pos f1]
 have a2:allL t.start t.cyc (td+1)=(findW t.cyc (td+1) 300 t.start).1:=by unfold allL;rw [if_pos f2]
 have hn:=find_next t.cyc td 300 300 t.start f1 f2
 rw [←a1,←a2] at hn
 have w1:walkR t L td=walkD t (sortL L) t.trs.length (td-t.start).toNat (allL t.start t.cyc td) (st0 t):=by unfold walkR;rw [if_pos r1]
 have w2:walkR t L (td+1)=walkD t (sortL L) t.trs.length ((td-t.start).toNat+1) (allL t.start t.cyc (td+1)) (st0 t):=by
  unfold walkR;rw [if_pos r2,show(td+1-t.start).toNat=(td-t.start).toNat+1 by omega]
 have hs:=(sortL_spec L).2
 have hd:(st0 t).day=t.start:=rfl
 have hq:=goes_on hz (td-t.start).toNat _ _ (st0 t) 0 _ _ t.start (by rw [hd,show t.start+((td-t.start).toNat:Int)=td by omega];exact hn) (fun x hx=>by have:=(hL x (hs.mem hx)).2;rw [hd];omega) (fun te S' e=>by
  obtain⟨te2,S3,S4,e3,_,hok,_⟩:=hn.head
  rw [e] at e3
  injection e3 with e3 _
  injection e3 with _ e3
  rw [e3]
  exact hok.le) (st0_ok hz) rfl (by rw [←w1];exact e1) rfl (by rw [←w2];exact e2)
 rw [←w1,←w2] at hq
 have hv:ofV t.start t.cyc (td+1)=((allL t.start t.cyc (td+1)).length:Int):=by unfold ofV;rw [if_pos o2,a2]
 have h3:(st0 t).out.length=0:=rfl
 refine⟨?_,hq.2.2⟩
 rw [hv]
 omega
def dblT:Nat→Int
 |0=>1
 |n+1=>2*dblT n
theorem dblT_pos:∀n,1≤dblT n
 |0=>by decide
 |n+1=>by have:=dblT_pos n;simp only [dblT];omega
theorem inRep{n:Nat}{a x:Int}(h:x∈List.replicate n a):x=a:=(List.mem_replicate.1 h).2
theorem repT(n:Nat)(a:Int):List.replicate n a++ [a]=List.replicate (n+1) a:=List.replicate_succ'.symm
theorem close22{T:List Ev}{i:Nat}{day a b c du r1 r2 fr te:Int}{x1 x2 y1 y2:List Int}{out:List Stm}:closeS t22 T 2 (st2 i day a b c du r1 r2 x1 x2 y1 y2 out) fr te=closeS tF T 2 (st2 i day a b c du r1 r2 x1 x2 y1 y2 out) fr te:=rfl
theorem ofR_rep{k:Nat}{a r:Int}(ha:0≤a∧a≤1000000000)(hk:k≤31)(hr:0≤r∧r≤3000000):∃v,ofR (List.replicate k a++ [a]) (List.replicate k r++ [r])=(v,0)∧0≤v∧v≤a:=by
 rw [repT,repT]
 obtain⟨e1,e2,e3,_⟩:=ofR_ok (X:=List.replicate (k+1) a) (Y:=List.replicate (k+1) r) (A:=a) ha.1 (by omega) (by rw [List.length_replicate];omega) (fun x hx=>by rw [inRep hx];omega) (fun y hy=>by rw [inRep hy];omega)
 exact⟨_,by rw [←e1],e2,e3⟩
def bSt(day a b du:Int)(k:Nat)(out:List Stm):St:=st2 1 day a b 0 du 500000 900000 (List.replicate k a) (List.replicate k b) (List.replicate k 500000) (List.replicate k 900000) out
theorem bear_go{T:List Ev}(hT:T[1]?=none):∀(d:Nat) (fr te:Int) (S:List (Int×Int)) (day a b du:Int) (k:Nat) (out:List Stm),SpanC (day+d) fr ((fr,te)::S)→fr+k=day→day≤te→0≤a→0≤b→(a+b)*dblT S.length≤1000000000→0≤du→du≤1000000000→(walkD t22 T 2 d ((fr,te)::S) (bSt day a b du k out)).2=0:=by
 have hno:∀x,T[1]?=some x→False:=fun x hx=>by rw [hT] at hx;cases hx
 intro d
 induction d with
 |zero=>
  intro fr te S day a b du k out _ _ _ _ _ _ _ _
  rw [walkD_stop (fun x hx=>(hno x hx).elim)]
 |succ d ih=>
  intro fr te S day a b du k out hS hk hte ha hb hab hd0 hd1
  have hdp:=dblT_pos S.length
  have hs:a+b≤1000000000:=by
   have:(a+b)*1≤(a+b)*dblT S.length:=Int.mul_le_mul_of_nonneg_left hdp (by omega)
   omega
  by_cases hcl:te=day
  ·cases hS with
   |last h1 h2 h3=>omega
   |more h1 h2 h3=>
    obtain⟨te',S',rfl,ok',lo',_⟩:=h3.head
    have hsh:=h1.sh
    obtain⟨g,hg⟩:∃g,freeB out fr T=g:=⟨_,rfl⟩
    obtain⟨v,hv,v0,v1⟩:=ofR_rep (k:=k) (a:=a) (r:=500000) ⟨ha,by omega⟩ (by omega) (by omega)
    obtain⟨u,hu,u0,u1⟩:=ofR_rep (k:=k) (a:=b) (r:=900000) ⟨hb,by omega⟩ (by omega) (by omega)
    obtain⟨v2,hv2,p0,p1⟩:∃v2,((g=true∧v2=0)∨(g=false∧ofR (List.replicate k a++ [a]) (List.replicate k 500000++ [500000])=(v2,0)))∧0≤v2∧v2≤a:=by
     rcases g with _|_
     ·exact⟨v,.inr ⟨rfl,hv⟩,v0,v1⟩
     ·exact⟨0,.inl ⟨rfl,rfl⟩,by omega,by omega⟩
    have hlb:=leastI_bd (mf:=25) (mp:=20) (total:=a+v2+(b+u)) (by omega) (by omega)
    have hb':(a+v2+(b+u))*dblT S'.length≤1000000000:=by
     have h5:(a+v2+(b+u))*dblT S'.length≤(2*(a+b))*dblT S'.length:=Int.mul_le_mul_of_nonneg_right (by omega) (by have:=dblT_pos S'.length;omega)
     have h6:(a+b)*dblT ((te+1,te')::S').length=2*(a+b)*dblT S'.length:=by simp only [List.length_cons,dblT];rw [←Int.mul_assoc,Int.mul_comm (a+b) 2]
     omega
    have hdp':=dblT_pos S'.length
    have hs':a+v2+(b+u)≤1000000000:=by
     have:(a+v2+(b+u))*1≤(a+v2+(b+u))*dblT S'.length:=Int.mul_le_mul_of_nonneg_left hdp' (by omega)
     omega
    have hc:=closeF (T:=T) (i:=1) (day:=day) (du:=du) (r1:=500000) (r2:=900000) (fr:=fr) (te:=te) (out:=out) hg hv2 hu p0 u0 ha hb (by omega) (by omega)
    have hw:=walkD_close (t:=t22) (T:=T) (d:=d) (S:=(te+1,te')::S') hcl (fun x hx=>(hno x hx).elim) (close22.trans hc) rfl
    unfold bSt
    rw [hw]
    exact ih (te+1) te' S' (day+1) (a+v2) (b+u) _ 0 _ (by rw [show day+1+(d:Int)=day+((d+1:Nat):Int) by omega];exact h3) (by omega) (by have:=ok'.le;omega) (by omega) (by omega) hb' hlb.1 (by omega)
  ·unfold bSt
   rw [walkD_quiet d 1 day _ _ _ _ (fun x hx=>(hno x hx).elim) (by omega)]
   simp only [List.replicate_one,repT]
   exact ih fr te S (day+1) a b du (k+1) out (by rw [show day+1+(d:Int)=day+((d+1:Nat):Int) by omega];exact hS) (by omega) (by omega) ha hb hab hd0 hd1
theorem tick_days:∀K:Fin 101,ofE 10957 1 (10957+(K.val:Int))=0∧(allL 10957 1 (10957+(K.val:Int))).length≤5∧(findW 1 (10957+(K.val:Int)) 300 10957).2=true:=by decide+kernel
theorem walk22{L:List Ev}{td:Int}{Z:St×Int}(hL:∀x∈L,evErr t22 x=0∧x.day≤td)(hl:L.length≤2000)(hd:10957≤td∧td≤2932896)(ho:ofE 10957 1 td=0)(hs:Sorted L)
  (h:walkD t22 L 2 (td-10957).toNat (allL 10957 1 td) (st2 0 10957 0 0 0 0 500000 900000 [] [] [] [] [])=Z):walkR t22 L td=Z:=by
 unfold walkR
 rw [if_pos (repErr_at (by decide+kernel) hL hl hd ho),sortL_id hs]
 exact h
def dr22(tr A:Int):List Ev:= [⟨1,10957,tr,A,0⟩]
theorem dr22_ev{tr A:Int}(ht:tr=1∨tr=2)(hA:1≤A∧A≤1000){td:Int}(hd:10957≤td):∀x∈dr22 tr A,evErr t22 x=0∧x.day≤td:=by
 intro x hx
 simp only [dr22,List.mem_singleton] at hx
 subst hx
 exact⟨evErr22 (by decide) (.inr ⟨by decide,by omega⟩) (.inr ⟨by decide,by omega⟩) (by decide) (.inr ⟨by decide,rfl⟩),hd⟩
theorem dr22_app{tr A:Int}(ht:tr=1∨tr=2)(hA:1≤A∧A≤1000):∃a b,(0≤a∧0≤b∧a+b=A)∧(tr=2→a=0)∧applyR ⟨[0,0],0,0⟩ [500000,900000] ⟨1,10957,tr,A,0⟩=(⟨[a,b],0,0⟩, [500000,900000],0):=by
 have p0:Ps.rightB ⟨[0,0],0,0⟩=true:=by decide+kernel
 have m0:minI A 0=0:=by unfold minI;rw [if_neg (by omega)]
 rcases ht with rfl|rfl
 ·exact⟨A,0,by omega,by omega,charge2 (a':=A) (b':=0) (c':=0) p0 (by omega) (by omega) (.inl rfl) (by omega) (.inl ⟨rfl,by rw [m0];omega,rfl⟩) (by rw [m0];rfl) (right2 (by omega) (by omega) (by omega) (by omega) (by omega) (.inl rfl))⟩
 ·exact⟨0,A,by omega,fun _=>rfl,charge2 (a':=0) (b':=A) (c':=0) p0 (by omega) (by omega) (.inl rfl) (by omega) (.inr ⟨rfl,rfl,by rw [m0];omega⟩) (by rw [m0];rfl) (right2 (by omega) (by omega) (by omega) (by omega) (by omega) (.inl rfl))⟩
theorem walkR_one{tr A a b td:Int}{d:Nat}{S:List (Int×Int)}{Z:St×Int}(ht:tr=1∨tr=2)(hA:1≤A∧A≤1000)(hap:applyR ⟨[0,0],0,0⟩ [500000,900000] ⟨1,10957,tr,A,0⟩=(⟨[a,b],0,0⟩, [500000,900000],0))(hd:10957≤td∧td≤2932896)(ho:ofE 10957 1 td=0)
  (h1:(td-10957).toNat=d) (h2:allL 10957 1 td=S) (hw:walkD t22 (dr22 tr A) 2 d S (bSt 10957 a b 0 0 [])=Z) (hz:Z.2=0):walkR t22 (dr22 tr A) td=Z:=by
 refine walk22 (dr22_ev ht hA hd.1) (by simp [dr22]) hd ho (by simp [dr22,Sorted]) ?_
 rw [h1,h2]
 exact walkD_ev1 (e:=⟨1,10957,tr,A,0⟩) rfl rfl hap hw hz
theorem draw_ok{tr A:Int}(ht:tr=1∨tr=2)(hA:1≤A∧A≤1000){q:Nat}(hq:q≤100):(walkR t22 (dr22 tr A) (10957+(q:Int))).2=0:=by
 obtain⟨o1,o2,o3⟩:=tick_days ⟨q,by omega⟩
 simp only at o1 o2 o3
 obtain⟨hS,_⟩:=find_spans 1 (10957+(q:Int)) 300 10957 o3
 have hall:allL 10957 1 (10957+(q:Int))=(findW 1 (10957+(q:Int)) 300 10957).1:=by unfold allL;rw [if_pos o3]
 rw [←hall] at hS
 obtain⟨te,S',hS',ok,lo,_⟩:=hS.head
 rw [hS'] at hS o2
 simp only [List.length_cons] at o2
 obtain⟨a,b,hab,_,hap⟩:=dr22_app ht hA
 have hb:(a+b)*dblT S'.length≤1000000000:=by
  have h1:dblT S'.length≤16:=by
   have:S'.length=0∨S'.length=1∨S'.length=2∨S'.length=3∨S'.length=4:=by omega
   rcases this with h|h|h|h|h<;>rw [h]<;>decide
  have:(a+b)*dblT S'.length≤(a+b)*16:=Int.mul_le_mul_of_nonneg_left h1 (by omega)
  omega
 have hgo:=bear_go (T:=dr22 tr A) rfl q 10957 te S' 10957 a b 0 0 [] hS (by omega) (by have:=ok.le;omega) hab.1 hab.2.1 hb (by omega) (by omega)
 have hw:=walkR_one (td:=10957+(q:Int)) ht hA hap (by omega) o1 (by omega) hS' rfl hgo
 exact(congrArg Prod.snd hw).trans hgo
structure Tk(tr am:Int)(i:Nat)(B:Ac):Prop where
 tt:B.t=t22
 L:B.L=dr22 tr am
 td:B.today=10957+i
 s:B.s=(walkR t22 (dr22 tr am) (10957+(i:Int))).1
 is:B.iss=B.s.out
 sq:0≤B.seq∧B.seq≤1+i
theorem tk_pre{tr am:Int}(ht:tr=1∨tr=2)(hA:1≤am∧am≤1000)(i:Nat):∀(d:Nat),i+d≤100→∃X,(walkR t22 (dr22 tr am) (10957+((i+d:Nat):Int))).1.out=(walkR t22 (dr22 tr am) (10957+(i:Int))).1.out++X
 |0,_=>⟨[],by simp⟩
 |d+1,h=>by
  obtain⟨X,hX⟩:=tk_pre ht hA i d (by omega)
  have h1:=draw_ok ht hA (q:=i+d) (by omega)
  have h2:=draw_ok ht hA (q:=i+d+1) (by omega)
  rw [show(10957:Int)+((i+d+1:Nat):Int)=10957+((i+d:Nat):Int)+1 by omega] at h2
  have hg:=walkR_goes (t:=t22) (L:=dr22 tr am) (td:=10957+((i+d:Nat):Int)) (by decide+kernel) (dr22_ev ht hA (by omega)) (by simp [dr22]) (by show(10957:Int)≤_;omega) (by omega) (by show _<(10957:Int)+7000;omega) h1 h2
  rw [show(10957:Int)+((i+(d+1):Nat):Int)=10957+((i+d:Nat):Int)+1 by omega]
  rcases hg.2 with⟨e,_⟩|⟨Y,e⟩
  ·exact⟨X,by rw [e,hX]⟩
  ·exact⟨X++ [Y],by rw [e,hX,List.append_assoc]⟩
theorem Tk.tick{tr am:Int}{i:Nat}{B:Ac}(h:Tk tr am i B)(ht:tr=1∨tr=2)(hA:1≤am∧am≤1000){d:Nat}(h1:1≤d)(hd:i+d≤100):
  B.te d=0∧Tk tr am (i+d) (B.tick d)∧B.s.out.length≤(B.tick d).s.out.length∧B.tc d=if B.s.out.length<(B.tick d).s.out.length then((B.tick d).s.out.length:Int) else 0:=by
 have hz:=draw_ok ht hA hd
 have htd:B.today+(d:Int)=10957+((i+d:Nat):Int):=by rw [h.td];omega
 have htz:B.tz d=walkR t22 (dr22 tr am) (10957+((i+d:Nat):Int)):=by unfold Ac.tz;rw [h.tt,h.L,htd]
 have ho:=(tick_days ⟨i+d,by omega⟩).1
 simp only at ho
 have hte:B.te d=0:=by
  unfold Ac.te
  rw [if_neg (by omega),htz,hz,htd,h.tt]
  show(if¬ofE 10957 1 _=0 then(10:Int) else 0)=0
  rw [ho]
  rfl
 obtain⟨X,hX⟩:=tk_pre ht hA i d hd
 have hti:B.tick d={ B with today:=B.today+d,s:=(B.tz d).1,iss:=B.iss++(B.tz d).1.out.drop B.s.out.length,seq:=B.seq+1 }:=by unfold Ac.tick;rw [if_pos hte]
 have hiss:B.iss++(B.tz d).1.out.drop B.s.out.length=(B.tz d).1.out:=by
  rw [h.is,htz,hX,h.s,List.drop_left']
  rfl
 have hle:B.s.out.length≤(B.tz d).1.out.length:=by rw [h.s,htz,hX,List.length_append];omega
 have hsq:=h.sq
 refine⟨hte, ?_,by rw [hti];exact hle, ?_⟩
 ·rw [hti,hiss]
  exact⟨h.tt,h.L,htd,by show(B.tz d).1=_;rw [htz],rfl,by show 0≤B.seq+1∧B.seq+1≤_;omega⟩
 ·rw [hti]
  unfold Ac.tc
  simp only [hte,true_and]
theorem Ac.chg_iss(a:Ac)(c:Cmd):(a.chg c).iss=a.iss:=by
 unfold Ac.chg Ac.nx Ac.count
 split
 ·rfl
 ·split
  ·rfl
  ·split
   ·rfl
   ·rfl
theorem draw22{tr am:Int}(ht:tr=1∨tr=2)(hA:1≤am∧am≤1000):
  (acNew t22).xe ⟨1,0,tr,am,0⟩=0∧(acNew t22).xr ⟨1,0,tr,am,0⟩=0∧Tk tr am 0 ((acNew t22).chg ⟨1,0,tr,am,0⟩)∧((acNew t22).chg ⟨1,0,tr,am,0⟩).adj= []∧((acNew t22).chg ⟨1,0,tr,am,0⟩).D= []∧((acNew t22).chg ⟨1,0,tr,am,0⟩).seq=1:=by
 have h0:Day0 (acNew t22) t22 (p22 0 0 0) [500000,900000]:=day22
 have m0:minI am 0=0:=by unfold minI;rw [if_neg (by omega)]
 obtain⟨x',y',hxy,hb1,hb2⟩:∃x' y',((tr=1∧x'=0+(am-minI am 0)∧y'=0)∨(tr=2∧x'=0∧y'=0+(am-minI am 0)))∧(0≤x'∧x'≤1000)∧(0≤y'∧y'≤1000):=by
  rw [m0]
  rcases ht with rfl|rfl
  ·exact⟨am,0,.inl ⟨rfl,by omega,rfl⟩,by omega,by omega⟩
  ·exact⟨0,am,.inr ⟨rfl,rfl,by omega⟩,by omega,by omega⟩
 obtain⟨e1,e2,e3,e4,e5,e6⟩:=h0.draw (am:=am) (c':=0) (by decide) hxy (by rw [m0];rfl) (by omega) (by omega) (right22 (by omega) (by omega) (by omega) (.inl rfl)) (right22 (by omega) (by omega) (by omega) (.inl rfl))
 have hee:(acNew t22).ee ⟨1,0,tr,am,0⟩=0:=by rw [ee_num h0 (by omega) (.inr ⟨by decide,by omega⟩),if_pos rfl,if_neg (by omega)]
 have hxv:(acNew t22).xev ⟨1,0,tr,am,0⟩=⟨1,10957,tr,am,0⟩:=by
  unfold Ac.xev
  rw [if_neg (by show¬((1:Int)=5∨(1:Int)=6);decide),Ac.ee_yes hee]
  rfl
 have hxz:(acNew t22).xz ⟨1,0,tr,am,0⟩=0:=by unfold Ac.xz;rw [if_neg (by show¬((1:Int)=5∨(1:Int)=6);decide)];exact hee
 have hce:(acNew t22).ce ⟨1,10957,tr,am,0⟩=0:=by
  have:=e1
  rw [Ac.xe_cnt hxz (by show¬(1:Int)=6;decide),hxv] at this
  exact this
 obtain⟨A,hAe⟩:∃A,(acNew t22).chg ⟨1,0,tr,am,0⟩=A:=⟨_,rfl⟩
 have hA2:A={ (acNew t22).count ⟨1,10957,tr,am,0⟩ with D:=(acNew t22).xD ⟨1,0,tr,am,0⟩ }:=by
  rw [←hAe,(Ac.chg_yes e1).1]
  unfold Ac.nx
  rw [if_neg (by show¬(1:Int)=6;decide),hxv]
 have hcn:(acNew t22).count ⟨1,10957,tr,am,0⟩={ acNew t22 with L:=putL [] ⟨1,10957,tr,am,0⟩,s:=((acNew t22).cz ⟨1,10957,tr,am,0⟩).1,adj:= []++((acNew t22).cb ⟨1,10957,tr,am,0⟩).2,seq:=1 }:=by unfold Ac.count;rw [if_pos hce];rfl
 have hpu:putL [] ⟨1,10957,tr,am,0⟩=dr22 tr am:=putL_last (L:= []) (by simp [Sorted])
 have hcz:(acNew t22).cz ⟨1,10957,tr,am,0⟩=walkR t22 (dr22 tr am) (10957+((0:Nat):Int)):=by
  unfold Ac.cz
  show walkR t22 (putL [] ⟨1,10957,tr,am,0⟩) 10957=_
  rw [hpu]
  rfl
 have hso:A.s=(walkR t22 (dr22 tr am) (10957+((0:Nat):Int))).1:=by rw [hA2,hcn,hcz]
 rw [hAe] at e3 e4 e5 e6⊢
 have hout:A.s.out= []:=e3.pos.2.2
 have hcb:((acNew t22).cb ⟨1,10957,tr,am,0⟩).2= []:=by
  unfold Ac.cb
  rw [hcz,←hso,hout]
  rfl
 refine⟨e1,e2,⟨e3.tt,by rw [hA2,hcn];exact hpu,by rw [e3.td];rfl,hso,by rw [hout,hA2,hcn];rfl,by rw [e4];decide⟩,by rw [hA2,hcn];show []++_=_;rw [hcb];rfl,by rw [e5];rfl,by rw [e4];rfl⟩
structure TwoV(w0 W:World)(B1:Nat)(a1:Ac)(x1:AcV)(B2:Nat)(a2:Ac)(x2:AcV):Prop where
 h1:AcAt W B1 x1 a1
 h2:AcAt W B2 x2 a2
 o1:∀b,AcF B1 x1 b→w0.heap.size≤b∧¬(AcF B2 x2 b∨x2.rd b)
 o2:∀b,AcF B2 x2 b→w0.heap.size≤b∧¬(AcF B1 x1 b∨x1.rd b)
 kp:Keeps (fun _=>False) w0 W
theorem TwoV.keep{w0 W W':World}{B1 B2:Nat}{a1 a2:Ac}{x1 x2:AcV}(h:TwoV w0 W B1 a1 x1 B2 a2 x2)(hk:Keeps (fun _=>False) W W'):TwoV w0 W' B1 a1 x1 B2 a2 x2:=⟨h.h1.keep0 hk,h.h2.keep0 hk,h.o1,h.o2,h.kp.nt hk⟩
theorem TwoV.swap{w0 W:World}{B1 B2:Nat}{a1 a2:Ac}{x1 x2:AcV}(h:TwoV w0 W B1 a1 x1 B2 a2 x2):TwoV w0 W B2 a2 x2 B1 a1 x1:=⟨h.h2,h.h1,h.o2,h.o1,h.kp⟩
theorem TwoV.post{w0 W W':World}{B1 B2:Nat}{a1 a2 a':Ac}{x1 x2:AcV}(h:TwoV w0 W B1 a1 x1 B2 a2 x2)(hp:AcPost W B1 x1 a' W'):∃x1',TwoV w0 W' B1 a' x1' B2 a2 x2:=by
 obtain⟨x',hA,hk,hf,hr⟩:=hp
 have hs:=h.kp.size
 have l2:∀b,AcF B2 x2 b∨x2.rd b→b<W.heap.size:=fun b hb=>h.h2.lt b hb
 refine⟨x',hA,h.h2.keeps hk fun b hb e=>(h.o1 b e).2 hb,fun b hb=> ?_,fun b hb=>⟨(h.o2 b hb).1,fun e=> ?_⟩,h.kp.trans (hk.mono fun i _ e=> .inr (h.o1 i e).1)⟩
 ·rcases hf b hb with e|e
  ·exact h.o1 b e
  ·exact⟨by omega,fun e2=>by have:=l2 b e2;omega⟩
 ·have hb2:=l2 b (.inl hb)
  rcases e with e|e
  ·rcases hf b e with e|e
   ·exact(h.o2 b hb).2 (.inl e)
   ·omega
  ·rcases hr b e with e|e
   ·exact(h.o2 b hb).2 (.inr e)
   ·omega
theorem TwoV.old{w0 W W':World}{B1 B2 R:Nat}{a1 a2 a':Ac}{x1 x2:AcV}{C:Array Value}(h:TwoV w0 W B1 a1 x1 B2 a2 x2)(hp:AcPost W B1 x1 a' W')(hR:W.heap[R]?=some (.cells C 44 (0,0))):W'.heap[R]?=some (.cells C 44 (0,0)):=by
 obtain⟨x',hA,hk,hf,hr⟩:=hp
 exact Ad hR hk fun e=>h.h1.other hR R (.inl e) rfl
theorem TwoV.box{w0 W W':World}{B1 B2:Nat}{a1 a2:Ac}{x1 x2:AcV}{C0 C:Array Value}{t:TypeId}(h:TwoV w0 W B1 a1 x1 B2 a2 x2)(hW:W'=(W.alloc (.cells C0 t)).setRow W.heap.size C):TwoV w0 W' B1 a1 x1 B2 a2 x2∧W'.heap[W.heap.size]?=some (.cells C t (0,0))∧Keeps (fun _=>False) W W':=by
 subst hW
 have hb:=setRow_heap (W.alloc (.cells C0 t)) W.heap.size C0 C t _ (heap_alloc_new W _)
 have hk:Keeps (fun _=>False) W ((W.alloc (.cells C0 t)).setRow W.heap.size C):=(Keeps.alloc (S:=fun _=>False) W (.cells C0 t)).trans ((Ca _ _ _).mono fun i _ e=> .inr (by have e':i=W.heap.size:=e;omega))
 exact⟨h.keep hk,hb,hk⟩
theorem TwoV.new{w0 W W1 W2:World}{B1 B2:Nat}{a1 a2:Ac}{x1 x2:AcV}(hk:Keeps (fun _=>False) w0 W)(h1:AcAt W1 B1 x1 a1)(f1:∀b,AcF B1 x1 b∨x1.rd b→W.heap.size≤b)(k1:Keeps (fun _=>False) W W1)(h2:AcAt W2 B2 x2 a2)(f2:∀b,AcF B2 x2 b∨x2.rd b→W1.heap.size≤b)(k2:Keeps (fun _=>False) W1 W2):TwoV w0 W2 B1 a1 x1 B2 a2 x2:=by
 have hs:=hk.size
 have hs1:=k1.size
 refine⟨h1.keep0 k2,h2,fun b hb=>⟨by have:=f1 b (.inl hb);omega,fun e=> ?_⟩,fun b hb=>⟨by have:=f2 b (.inl hb);omega,fun e=> ?_⟩,(hk.nt k1).nt k2⟩
 ·have:=h1.lt b (.inl hb);have:=f2 b e;omega
 ·have:=f2 b (.inl hb);have:=h1.lt b e;omega
theorem new22v{g:Nat}{W:World}(hr:Reads W 2 (.slice (some ⟨g,0,none⟩) 2 2) 2 (t22.trs.flatMap Tn.cells)):Calls Tryz.prog 12 #[.agg #[.int .i64 1000,.slice (some ⟨g,0,none⟩) 2 2,.int .i64 1,.int .i64 20,.int .i64 25,.int .i64 20,.int .i64 10957]] W (NewAc t22 W):=accNew_ok t22 _ W hr rep22
theorem ask22_post(B:Nat)(x:AcV)(a:Ac)(ki tr am:Int)(w:World)(h:AcAt w B x a)(hs:a.seq≤100000)(hk:1≤ki∧ki≤7):
  Calls Tryz.prog 18 #[(.pointer (some ⟨B,0,none⟩)),.int .i64 ki,.int .i64 tr,.int .i64 am] w fun e w'=>e= .returned (.agg #[.int .i64 (a.xe ⟨ki,0,tr,am,0⟩),.int .i64 (a.xr ⟨ki,0,tr,am,0⟩),.int .i64 0,.int .i64 0,.int .i64 0,.slice none 0 0,.int .i64 0,.int .i64 0,.slice none 0 0,.slice none 0 0,.int .i64 0,.int .i64 0,.int .i64 0,.int .i64 0,.int .i64 0,.slice none 0 0,.int .i64 0,.int .i64 0,.int .i64 0,.bool false])∧AcPost w B x (a.chg ⟨ki,0,tr,am,0⟩) w':=by
 have hr0:=heap_alloc_new w (.cells #[.int .i64 0,.int .i64 0,.int .i64 0,.int .i64 0,.int .i64 0,.slice none 0 0,.int .i64 0,.int .i64 0,.slice none 0 0,.slice none 0 0,.int .i64 0,.int .i64 0,.int .i64 0,.int .i64 0,.int .i64 0,.slice none 0 0,.int .i64 0,.int .i64 0,.int .i64 0,.bool false] 44)
 have hk0:Keeps (fun _=>False) w (w.alloc (.cells #[.int .i64 0,.int .i64 0,.int .i64 0,.int .i64 0,.int .i64 0,.slice none 0 0,.int .i64 0,.int .i64 0,.slice none 0 0,.slice none 0 0,.int .i64 0,.int .i64 0,.int .i64 0,.int .i64 0,.int .i64 0,.slice none 0 0,.int .i64 0,.int .i64 0,.int .i64 0,.bool false] 44)):=Keeps.alloc _ _
 have hdo:=accDo_chg B x a ⟨ki,0,tr,am,0⟩ _ (h.keep0 hk0) hs hk
 simp only at hdo
 obtain⟨xe,hxe⟩:∃z,a.xe ⟨ki,0,tr,am,0⟩=z:=⟨_,rfl⟩
 obtain⟨xr,hxr⟩:∃z,a.xr ⟨ki,0,tr,am,0⟩=z:=⟨_,rfl⟩
 rw [hxe,hxr] at hdo
 rw [hxe,hxr]
 obtain⟨H,Hdo,Hr0,Hk0,Hxe,Hxr,Hk⟩:=hid7 h hdo hr0 hk0 hxe hxr hk;clear hk hxr hxe hk0 hr0 hdo h
 go_enter Tryz.func18,Tryz.ntmps18
 go_wp2_with fail
 refine Hdo.out.mono ?_
 rintro e w1 ⟨rfl,hp⟩
 obtain⟨hR,hq⟩:=AcPost.ret (V:= #[.int .i64 xe,.int .i64 xr,.int .i64 0,.int .i64 0,.int .i64 0,.slice none 0 0,.int .i64 0,.int .i64 0,.slice none 0 0,.slice none 0 0,.int .i64 0,.int .i64 0,.int .i64 0,.int .i64 0,.int .i64 0,.slice none 0 0,.int .i64 0,.int .i64 0,.int .i64 0,.bool false]) H.out Hk0.out hp Hr0.out (Nat.le_refl _)
 have hput:=setRow_heap w1 w.heap.size #[.int .i64 0,.int .i64 0,.int .i64 0,.int .i64 0,.int .i64 0,.slice none 0 0,.int .i64 0,.int .i64 0,.slice none 0 0,.slice none 0 0,.int .i64 0,.int .i64 0,.int .i64 0,.int .i64 0,.int .i64 0,.slice none 0 0,.int .i64 0,.int .i64 0,.int .i64 0,.bool false] #[.int .i64 xe,.int .i64 xr,.int .i64 0,.int .i64 0,.int .i64 0,.slice none 0 0,.int .i64 0,.int .i64 0,.slice none 0 0,.slice none 0 0,.int .i64 0,.int .i64 0,.int .i64 0,.int .i64 0,.int .i64 0,.slice none 0 0,.int .i64 0,.int .i64 0,.int .i64 0,.bool false] 44 _ hR
 clear hp
 obtain⟨HR,Hq,Hput⟩:=hid3 hR hq hput;clear hput hq hR
 go_wp2_with (refine wpList_store_row rfl 44 (.tmp 8) (.tmp 14) rfl w.heap.size #[.int .i64 xe,.int .i64 xr,.int .i64 0,.int .i64 0,.int .i64 0,.slice none 0 0,.int .i64 0,.int .i64 0,.slice none 0 0,.slice none 0 0,.int .i64 0,.int .i64 0,.int .i64 0,.int .i64 0,.int .i64 0,.slice none 0 0,.int .i64 0,.int .i64 0,.int .i64 0,.bool false] rfl rfl 44 #[.int .i64 0,.int .i64 0,.int .i64 0,.int .i64 0,.int .i64 0,.slice none 0 0,.int .i64 0,.int .i64 0,.slice none 0 0,.slice none 0 0,.int .i64 0,.int .i64 0,.int .i64 0,.int .i64 0,.int .i64 0,.slice none 0 0,.int .i64 0,.int .i64 0,.int .i64 0,.bool false] HR.out Ar rfl (Br _ _ _) ?_)
 exact bodyPost_ret (results_cell_row rfl _ _ w.heap.size 44 #[.int .i64 xe,.int .i64 xr,.int .i64 0,.int .i64 0,.int .i64 0,.slice none 0 0,.int .i64 0,.int .i64 0,.slice none 0 0,.slice none 0 0,.int .i64 0,.int .i64 0,.int .i64 0,.int .i64 0,.int .i64 0,.slice none 0 0,.int .i64 0,.int .i64 0,.int .i64 0,.bool false] _ _ rfl Hput.out Tryz.underlying44 rfl Ar) rfl ⟨rfl,Hq.out⟩
theorem at_st{B:Nat}{x:AcV}{a:Ac}{W:World}(h:AcAt W B x a){td cy sq cr du:Int}{n m q:Nat}(htd:a.today=td)(hcy:a.cyc a.today=cy)(hsq:a.seq=sq)(hcr:a.s.p.cr=cr)(hdu:a.s.p.du=du)(hn:a.s.p.bal.length=n)(hm:a.s.R.length=m)(hq:a.D.length=q):
  Calls Tryz.prog 16 #[(.pointer (some ⟨B,0,none⟩))] W (StL a W td cy sq cr du n m q):=by
 refine(accState_any B x a W h).mono ?_
 rintro e w' ⟨a1,c1,a2,c2,a3,c3,he,h1,h2,h3,h4,h5⟩
 rw [hn] at h1
 rw [hm] at h2
 rw [hq] at h3
 rw [hcy,htd,hsq,hcr,hdu,hn,hm,hq] at he
 rw [hn,hm,hq] at h5
 exact⟨a1,c1,a2,c2,a3,c3,he,h1,h2,h3,h4,h5⟩
theorem Reads.keepF{S:Nat→Prop}{w w':World}{size:Nat}{x:Value}{m:Nat}{news:List Value}(h:Reads w size x m news)(hk:Keeps S w w')(hS:∀k,x.ownBlock=some k→k<w.heap.size→¬S k):Reads w' size x m news:=by
 obtain⟨ad,c,rfl,h1,h2,h3,h4⟩:=h
 refine⟨ad,c,rfl,h1,h2,h3,fun j u hj=> ?_⟩
 obtain⟨g,o,rfl,ha⟩:=h4 j u hj
 exact⟨g,o,rfl,by rw [hk.cell (Ag ha) (hS g rfl (Ag ha))];exact ha⟩
def YR(lo:Nat)(w:World)(size:Nat)(x:Value)(m:Nat)(news:List Value):Prop:=Reads w size x m news∧∀k,x.ownBlock=some k→lo≤k
theorem YR.keep{lo:Nat}{S:Nat→Prop}{w w':World}{size:Nat}{x:Value}{m:Nat}{news:List Value}(h:YR lo w size x m news)(hk:Keeps S w w')(hS:∀k,lo≤k→k<w.heap.size→¬S k):YR lo w' size x m news:=⟨h.1.keepF hk fun k hk l=>hS k (h.2 k hk) l,h.2⟩
structure YI(lo:Nat)(w:World)(v:Value)(P:List SV):Prop where
 row:YR lo w 9 v P.length (P.flatMap SV.cells)
 ln:∀x∈P,YR lo w 3 x.v x.s.lines.length (x.s.lines.flatMap Ln.cells)
theorem YI.keep{lo:Nat}{S:Nat→Prop}{w w':World}{v:Value}{P:List SV}(h:YI lo w v P)(hk:Keeps S w w')(hS:∀k,lo≤k→k<w.heap.size→¬S k):YI lo w' v P:=⟨h.row.keep hk hS,fun x hx=>(h.ln x hx).keep hk hS⟩
theorem YI.of{lo:Nat}{w W:World}{v:Value}{Q:List SV}(h:OwnP w W v Q)(hl:lo≤w.heap.size):YI lo W v Q:=⟨⟨Reads.Bh h.row,fun k hk=>Nat.le_trans hl (h.fr.2 k hk)⟩,fun x hx=>⟨Reads.Bh (h.ln x hx),fun k hk=>Nat.le_trans hl (h.lf x hx k hk)⟩⟩
theorem YI.pages{lo:Nat}{w:World}{v:Value}{Q:List SV}{a:Ac}(h:YI lo w v Q)(hq:Q.map SV.s=a.iss)(ho:AcOk a):Pages19 w v Q:=by
 have hn:=ho.nums
 refine⟨h.row.1,fun x hx=>(h.ln x hx).1,fun x hx=> ?_, ?_⟩
 ·have:=ho.ill x.s (by rw [←hq];exact List.mem_map_of_mem hx)
  have:=hn.n8
  omega
 ·have:=congrArg List.length hq
  rw [List.length_map,ho.il] at this
  have:=hn.o3
  omega
def TkR(w:World)(D m9 nD B C:Nat)(AD:Ac)(x8:AcV)(a0:Int)(l c:Value)(wr:World):Prop:=∃(i n:Nat) (X:Ac) (y:AcV),i≤D∧c= .int .i64 (i:Nat)∧l= .int .i64 (n:Nat)∧n≤1000∧X.s.out.length=n∧Tk 1 (1+a0) i X∧TwoV w wr B AD x8 C X y∧wr.heap[m9]?=some (.cells #[.int .i64 0,.int .i64 0,.int .i64 (nD:Int),.int .i64 0,.int .i64 0,.slice none 0 0,.int .i64 0,.int .i64 0,.slice none 0 0,.slice none 0 0,.int .i64 0,.int .i64 0,.int .i64 0,.int .i64 0,.int .i64 0,.slice none 0 0,.int .i64 0,.int .i64 0,.int .i64 0,.bool false] 44 (0,0))
end Go.Proofs.YthffbjldpfionaaGreat
