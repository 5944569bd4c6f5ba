/- Part 1. -/
import Derived.Test.YthffbjldpfionaaGreatC11
namespace Go.Proofs.YthffbjldpfionaaGreat
open Go.RowKit
theorem jY8{P:Prop}(h:P:=by
 have H:=Lib.hid h;clear h
 go_enter Tryz.func73,Tryz.ntmps73
 go_wp2
 go_ret;exact⟨by rw [H.out];rfl,rfl⟩):P:=h
theorem jY2{P:Prop}(h:P:=by
 clear h;have hb0:=heap_alloc_new w (.cells #[.int .i64 0,.int .i64 0,.int .i64 0,.int .i64 0,.int .i64 0,.slice none 0 0,.int .i64 0,.int .i64 0,.slice none 0 0,.slice none 0 0,.int .i64 0,.int .i64 0,.int .i64 0,.int .i64 0,.int .i64 0,.slice none 0 0,.int .i64 0,.int .i64 0,.int .i64 0,.bool false] 44);have hk0:Keeps (fun _=>False) w (w.alloc (.cells #[.int .i64 0,.int .i64 0,.int .i64 0,.int .i64 0,.int .i64 0,.slice none 0 0,.int .i64 0,.int .i64 0,.slice none 0 0,.slice none 0 0,.int .i64 0,.int .i64 0,.int .i64 0,.int .i64 0,.int .i64 0,.slice none 0 0,.int .i64 0,.int .i64 0,.int .i64 0,.bool false] 44)):=Keeps.alloc _ _;obtain⟨Hb0,Hk0⟩:=hid2 hb0 hk0;clear hk0 hb0
 go_enter Tryz.func40,Tryz.ntmps40
 go_wp2_with fail
 refine(Cb 12 _).mono ?_;rintro e w1 ⟨rfl,hk1⟩;have hb1:=Ad Hb0.out hk1 (by simp);have hk01:=Hk0.out.nt hk1;clear hk1;obtain⟨Hb1,Hk01⟩:=hid2 hb1 hk01;clear hk01 hb1;obtain⟨hput1,hput2⟩:=putRow (V:= #[.int .i64 12,.int .i64 0,.int .i64 0,.int .i64 0,.int .i64 0,.slice none 0 0,.int .i64 0,.int .i64 0,.slice none 0 0,.slice none 0 0,.int .i64 0,.int .i64 0,.int .i64 0,.int .i64 0,.int .i64 0,.slice none 0 0,.int .i64 0,.int .i64 0,.int .i64 0,.bool false]) Hb1.out Hk01.out (Nat.le_refl _);obtain⟨Hput1,Hput2⟩:=hid2 hput1 hput2;clear hput2 hput1
 go_wp2_with (refine wpList_store_row rfl 44 (.tmp 4) (.tmp 13) rfl w.heap.size #[.int .i64 12,.int .i64 0,.int .i64 0,.int .i64 0,.int .i64 0,.slice none 0 0,.int .i64 0,.int .i64 0,.slice none 0 0,.slice none 0 0,.int .i64 0,.int .i64 0,.int .i64 0,.int .i64 0,.int .i64 0,.slice none 0 0,.int .i64 0,.int .i64 0,.int .i64 0,.bool false] rfl rfl 44 #[.int .i64 0,.int .i64 0,.int .i64 0,.int .i64 0,.int .i64 0,.slice none 0 0,.int .i64 0,.int .i64 0,.slice none 0 0,.slice none 0 0,.int .i64 0,.int .i64 0,.int .i64 0,.int .i64 0,.int .i64 0,.slice none 0 0,.int .i64 0,.int .i64 0,.int .i64 0,.bool false] Hb1.out Ar rfl (Br 12 0 0) ?_)
 exact bodyPost_ret (results_cell_row rfl _ _ w.heap.size 44 #[.int .i64 12,.int .i64 0,.int .i64 0,.int .i64 0,.int .i64 0,.slice none 0 0,.int .i64 0,.int .i64 0,.slice none 0 0,.slice none 0 0,.int .i64 0,.int .i64 0,.int .i64 0,.int .i64 0,.int .i64 0,.slice none 0 0,.int .i64 0,.int .i64 0,.int .i64 0,.bool false] _ _ rfl Hput1.out Tryz.underlying44 rfl Ar) rfl ⟨rfl,Hput2.out⟩):P:=h
theorem jY20{P:Prop}(h:P:=by
 exact HS.out.keep (Keeps.drew (S:=fun _=>False) _) (by simp) (by simp)):P:=h
theorem jY17{P:Prop}(h:P:=by
 refine hK.out _ _ (by exact Hs3.out) ?_;clear hK K
 try simp only [aps]
 refine Aw ?_
 go_wp2_with fail
 exact bodyPost_ret (results_cell_row rfl _ _ (w.heap.size+1) 44 #[.int .i64 12,.int .i64 0,.int .i64 0,.int .i64 0,.int .i64 0,.slice none 0 0,.int .i64 0,.int .i64 0,.slice none 0 0,.slice none 0 0,.int .i64 0,.int .i64 0,.int .i64 0,.int .i64 0,.int .i64 0,.slice none 0 0,.int .i64 0,.int .i64 0,.int .i64 0,.bool false] _ _ rfl Hput.out Tryz.underlying44 rfl Ar) rfl ⟨_,rfl,by rw [Hte.out.1,Hte.out.2];exact Hans2.out,Hq.out⟩):P:=h
theorem jY5{P:Prop}(h:P:=by
 refine hK.out _ _ (by exact Hs3.out) ?_;clear hK K
 try simp only [aps]
 refine Aw ?_
 go_wp2_with fail
 exact bodyPost_ret (results_cell_row rfl _ _ (w.heap.size+1) 44 #[.int .i64 0,.int .i64 0,.int .i64 0,.int .i64 0,.int .i64 0,.slice none 0 0,.int .i64 0,.int .i64 0,.slice none 0 0,.slice none 0 0,.int .i64 0,.int .i64 cy,.int .i64 fr,.int .i64 te,.int .i64 du,.slice al m cl,.int .i64 tot,.int .i64 cre,.int .i64 mi,.bool gr] _ _ rfl Hput.out Tryz.underlying44 rfl Ar) rfl ⟨_,rfl,by rw [Hte.out.1,Hte.out.2];exact Hans2.out,Hq.out⟩):P:=h
theorem jY10{P:Prop}(h:P:=by
 go_wp2
 go_ret;exact⟨rfl,(Keeps.alloc _ _).trans (Keeps.alloc _ _)⟩):P:=h
theorem jY6{P:Prop}(h:P:=by
 go_roundw
 case rel=>exact⟨k+1,by omega,by go_num,(Hkp.out.trans ((Keeps.drew _).trans (Hk2.out.mono (by simp))))⟩
 case measure=>simp [intOf];omega):P:=h
theorem jY19{P:Prop}(h:P:=by
 go_wp2
 go_ret;exact⟨rfl,Hkp.out⟩):P:=h
theorem jY11{P:Prop}(h:P:=by
 go_ret;exact⟨rfl,((Keeps.alloc _ _).trans (Keeps.alloc _ _)).trans (Hk1.out.mono (by simp))⟩):P:=h
theorem jY15{P:Prop}(h:P:=by
 exact⟨h1,by unfold Ac.tc;rw [h1];simp,by unfold Ac.tick;rw [h1];simp⟩):P:=h
theorem jY1{P:Prop}(h:P:=by
 clear hd;have hc:=te_arg (a:=a) (d:=d) (by omega);have hb0:=heap_alloc_new w (.cells #[.int .i64 0,.int .i64 0,.int .i64 0,.int .i64 0,.int .i64 0,.slice none 0 0,.int .i64 0,.int .i64 0,.slice none 0 0,.slice none 0 0,.int .i64 0,.int .i64 0,.int .i64 0,.int .i64 0,.int .i64 0,.slice none 0 0,.int .i64 0,.int .i64 0,.int .i64 0,.bool false] 44);have hk0:Keeps (fun _=>False) w (w.alloc (.cells #[.int .i64 0,.int .i64 0,.int .i64 0,.int .i64 0,.int .i64 0,.slice none 0 0,.int .i64 0,.int .i64 0,.slice none 0 0,.slice none 0 0,.int .i64 0,.int .i64 0,.int .i64 0,.int .i64 0,.int .i64 0,.slice none 0 0,.int .i64 0,.int .i64 0,.int .i64 0,.bool false] 44)):=Keeps.alloc _ _;obtain⟨H,Hb0,Hk0,Hc⟩:=hid4 h hb0 hk0 hc;clear hc hk0 hb0 h
 go_enter Tryz.func39,Tryz.ntmps39
 go_wp2_with fail
 refine(Cb 1 _).mono ?_;rintro e w1 ⟨rfl,hk1⟩;have hb1:=Ad Hb0.out hk1 (by simp);have hk01:=Hk0.out.nt hk1;clear hk1;obtain⟨Hb1,Hk01⟩:=hid2 hb1 hk01;clear hk01 hb1;obtain⟨hput1,hput2⟩:=putRow (V:= #[.int .i64 1,.int .i64 0,.int .i64 0,.int .i64 0,.int .i64 0,.slice none 0 0,.int .i64 0,.int .i64 0,.slice none 0 0,.slice none 0 0,.int .i64 0,.int .i64 0,.int .i64 0,.int .i64 0,.int .i64 0,.slice none 0 0,.int .i64 0,.int .i64 0,.int .i64 0,.bool false]) Hb1.out Hk01.out (Nat.le_refl _);obtain⟨Hput1,Hput2⟩:=hid2 hput1 hput2;clear hput2 hput1
 go_wp2_with (refine wpList_store_row rfl 44 (.tmp 4) (.tmp 18) rfl w.heap.size #[.int .i64 1,.int .i64 0,.int .i64 0,.int .i64 0,.int .i64 0,.slice none 0 0,.int .i64 0,.int .i64 0,.slice none 0 0,.slice none 0 0,.int .i64 0,.int .i64 0,.int .i64 0,.int .i64 0,.int .i64 0,.slice none 0 0,.int .i64 0,.int .i64 0,.int .i64 0,.bool false] rfl rfl 44 #[.int .i64 0,.int .i64 0,.int .i64 0,.int .i64 0,.int .i64 0,.slice none 0 0,.int .i64 0,.int .i64 0,.slice none 0 0,.slice none 0 0,.int .i64 0,.int .i64 0,.int .i64 0,.int .i64 0,.int .i64 0,.slice none 0 0,.int .i64 0,.int .i64 0,.int .i64 0,.bool false] Hb1.out Ar rfl (Br 1 0 0) ?_)
 exact bodyPost_ret (results_cell_row rfl _ _ w.heap.size 44 #[.int .i64 1,.int .i64 0,.int .i64 0,.int .i64 0,.int .i64 0,.slice none 0 0,.int .i64 0,.int .i64 0,.slice none 0 0,.slice none 0 0,.int .i64 0,.int .i64 0,.int .i64 0,.int .i64 0,.int .i64 0,.slice none 0 0,.int .i64 0,.int .i64 0,.int .i64 0,.bool false] _ _ rfl Hput1.out Tryz.underlying44 rfl Ar) rfl ⟨by rw [Hc.out.1,Hc.out.2.1],by rw [Hc.out.2.2];exact AcPost.same H.out Hput2.out⟩):P:=h
theorem jY4{P:Prop}(h:P:=by
 have hSz:=HSk.out _ hk4z;obtain⟨Hrel,Hbz,Hkz,Hk4z,HSz,Hz8⟩:=hid6 hrel hbz hkz hk4z hSz hz8;clear hz8 hSz hk4z hkz hbz hrel
 repeat ((first|refine Ai rfl (by rfl) ?_|refine Af rfl (by rfl) ?_|(refine Ah (v:= ?_) rfl (by rfl) ?_ ?_;rotate_left;(· intro w' hSw;unfold acT9 tbS at hSw;go_simp;(try with_reducible rfl));rotate_right));try simp only [aps])
 refine Ak rfl (fun K hK=> ?_)
 go_simp
 refine hK.out _ _ (by exact HSz.out) ?_;clear hK K
 try simp only [aps]
 repeat ((first|refine Ai rfl (by rfl) ?_|refine Af rfl (by rfl) ?_|(refine Ah (v:= ?_) rfl (by rfl) ?_ ?_;rotate_left;(· intro w' hSw;unfold acT9 tbS at hSw;go_simp;(try with_reducible rfl));rotate_right));try simp only [aps])
 refine Aw ?_;clear z0 z1 z2' zf0 zf1 zf2 hlz
 go_wp2_with fail
 go_meet
 exact Hrel.out):P:=h
theorem jY14{P:Prop}(h:P:=by
 have e':b=B:=e;rcases hvi14 b hb with h1|h1
 ·exact HA3.out.si b h1 (.inl e')
 ·omega):P:=h
set_option maxRecDepth 100000
set_option maxHeartbeats 400000
theorem rtmWithin_any(v a b:Int)(w:World):Calls Tryz.prog 73 #[.int .i64 v,.int .i64 a,.int .i64 b] w fun e w'=>e= .returned (.bool (inB v a b))∧w=w':=by
 by_cases h1:a≤v
 ·by_cases h2:v≤b
  ·have h:inB v a b=true:=by simp [inB,h1,h2]
   exact jY8
  ·have h:inB v a b=false:=by simp [inB,h2]
   have h2':b<v:=by omega
   exact jY8
 ·have h:inB v a b=false:=by simp [inB,h1]
  have h1':v<a:=by omega
  exact jY8
theorem rtmWithin_at{v a b:Int}{r:Bool}(hr:inB v a b=r)(w:World):Calls Tryz.prog 73 #[.int .i64 v,.int .i64 a,.int .i64 b] w fun e w'=>e= .returned (.bool r)∧w=w':=by
 subst hr;exact rtmWithin_any v a b w
theorem lastF_yes{fr cd:Int}(h0: -135140≤fr)(h1:fr≤2932896)(c0:1≤cd)(c1:cd≤28)(hn2:lastF fr cd+1≤2932896):dD (lastF fr cd+1)=cd:=by
 have h:=date_is h0 h1;have hm:=(Co (y:=dY fr) (m:=dM fr) h.m0 h.m1).2;have hd0:=h.d0;have hd1:=h.d1;unfold lastF at hn2⊢
 split
 ·rename_i hlt
  rw [if_pos hlt] at hn2;obtain⟨y',m',h2⟩:=h.over cd c0 c1;rw [show fr-dD fr+cd-1+mlen (dY fr) (dM fr)+1=fr-dD fr+mlen (dY fr) (dM fr)+cd by omega];exact(h2.found (by omega)).2.2
 ·rename_i hlt
  rw [if_neg hlt] at hn2;have h2:=h.same (cd-dD fr) (by omega) (by omega);rw [show fr-dD fr+cd-1+1=fr+(cd-dD fr) by omega];rw [(h2.found (by omega)).2.2];omega
end Go.Proofs.YthffbjldpfionaaGreat
namespace Go.Proofs.YthffbjldpfionaaGreat
open Go.RowKit
instance:CoeFun Fx (fun _=>Nat→Prop):=⟨Fx.X⟩
end Go.Proofs.YthffbjldpfionaaGreat
namespace Go.Proofs.YthffbjldpfionaaGreat
open Go.RowKit
structure OwnP(w W:World)(v:Value)(L:List SV):Prop where
 row:W.ownsRow 0 42 9 v L.length (L.flatMap SV.cells)
 ln:∀x∈L,W.ownsRow 0 102 3 x.v x.s.lines.length (x.s.lines.flatMap Ln.cells)
 fr:Fresh w W v
 lf:∀x∈L,∀b,x.v.ownBlock=some b→w.heap.size≤b
theorem OwnP.keep{w W W':World}{v:Value}{L:List SV}(h:OwnP w W v L)(hk:Keeps (fun _=>False) W W'):OwnP w W' v L:=⟨hk.row h.row (by simp),fun x hx=>hk.row (h.ln x hx) (by simp),h.fr.keep hk,h.lf⟩
theorem OwnP.app{w W1 w6:World}{v v6:Value}{L:List SV}{x:SV}{m:Nat}{xs:List Value}(h:OwnP w W1 v L)(hk:Keeps (fun j=>v.ownBlock=some j∨W1.heap.size≤j) W1 w6)(hm:m=L.length+1)(hx:xs=L.flatMap SV.cells++x.cells)(hr:w6.ownsRow 0 42 9 v6 m xs)
  (hl:w6.ownsRow 0 102 3 x.v x.s.lines.length (x.s.lines.flatMap Ln.cells)) (hlf:∀b,x.v.ownBlock=some b→w.heap.size≤b) (hf:v6.ownBlock=v.ownBlock∨∃g,v6.ownBlock=some g∧W1.heap.size≤g):OwnP w w6 v6 (L++ [x]):=by
 have hsz:=h.fr.1.size;subst hm hx;refine⟨by simpa using hr,fun y hy=> ?_,⟨h.fr.1.trans (hk.mono fun i _ e=> .inr ?_),fun g hg=> ?_⟩,fun y hy b hb=> ?_⟩
 ·rcases List.mem_append.1 hy with hy|hy
  ·refine hk.row (h.ln y hy) fun g hg e=> ?_;rcases e with e|e
   ·exact rows_ne (h.ln y hy) h.row (by decide) hg e
   ·have:=own_ltA (h.ln y hy) hg;omega
  ·obtain rfl:y=x:=by simpa using hy
   exact hl
 ·rcases e with e|e
  ·exact h.fr.2 i e
  ·omega
 ·rcases hf with e|⟨g',e,h'⟩
  ·exact h.fr.2 g (by rw [←e];exact hg)
  ·rw [e] at hg;simp only [Option.some.injEq] at hg;omega
 ·rcases List.mem_append.1 hy with hy|hy
  ·exact h.lf y hy b hb
  ·obtain rfl:y=x:=by simpa using hy
   exact hlf b hb
def OwnPost(w:World)(M:List Stm)(e:Ending)(w':World):Prop:=∃v Q,e= .returned v∧OwnP w w' v Q∧Q.map SV.s=M
set_option maxRecDepth 100000
set_option maxHeartbeats 3200000
theorem accOwn_any(ad:Option Addr)(cap n:Nat)(P:List SV)(w:World)(h:StmsR w ad n cap P)(hn:n≤1000):Calls Tryz.prog 46 #[.slice ad n cap] w (OwnPost w (P.map SV.s)):=by
 obtain⟨i0,hi,hi0,hi1,hi2⟩:=info_parts info_tStm;obtain⟨H,Hi,Hi0,Hi1,Hi2⟩:=hid5 h hi hi0 hi1 hi2;clear hi2 hi1 hi0 hi h
 go_enter Tryz.func46,Tryz.ntmps46
 go_wp2_with fail
 go_loopw [3,8] (fun v c wr=>∃(k:Nat) (adv:Option Addr) (cv:Nat) (Q:List SV),k≤n∧c= .int .i64 (k:Nat)∧v= .slice adv k cv∧OwnP w wr (.slice adv k cv) Q∧Q.map SV.s=(P.map SV.s).take k) (fun _ c _=>n-(intOf c).toNat)
 case atStart=>exact⟨0,none,0, [],Nat.zero_le _,rfl,rfl,⟨World.ownsRow_nil _ _ _ _,by simp,⟨Keeps.refl _ _,by simp [Value.ownBlock]⟩,by simp⟩,rfl⟩
 case round=>
  obtain⟨k,adv,cv,Q,hkn,rfl,rfl,hp,hq⟩:=hrel;have hQk:Q.length=k:=by have:=congrArg List.length hq;simp at this;rw [this,H.out.n];omega
  by_cases hlt:k<n
  ·have hltI:(k:Int)<(n:Int):=by omega
   obtain⟨x,hx⟩:=Av (L:=P) (k:=k) (by rw [H.out.n];exact hlt);have hk0:=hp.fr.1;have hrd:=H.out.row.keeps hk0 (by simp);obtain⟨g,o,c,he,hc⟩:=hrd.elem SV.Am hx (by decide);simp only [Value.slice.injEq,true_and] at he;obtain⟨rfl,rfl⟩:=he;have x0:wr.cell? ⟨g,o+k*9,none⟩=some (.int .i64 x.s.cycle):=hc 0 (by decide);have x1:wr.cell? ⟨g,o+k*9+1,none⟩=some (.int .i64 x.s.fr):=hc 1 (by decide);have x2:wr.cell? ⟨g,o+k*9+2,none⟩=some (.int .i64 x.s.te):=hc 2 (by decide);have x3:wr.cell? ⟨g,o+k*9+3,none⟩=some (.int .i64 x.s.due):=hc 3 (by decide);have x4:wr.cell? ⟨g,o+k*9+4,none⟩=some x.v:=hc 4 (by decide);have x5:wr.cell? ⟨g,o+k*9+5,none⟩=some (.int .i64 x.s.total):=hc 5 (by decide);have x6:wr.cell? ⟨g,o+k*9+6,none⟩=some (.int .i64 x.s.credit):=hc 6 (by decide);have x7:wr.cell? ⟨g,o+k*9+7,none⟩=some (.int .i64 x.s.min):=hc 7 (by decide);have x8:wr.cell? ⟨g,o+k*9+8,none⟩=some (.bool x.s.grace):=hc 8 (by decide);have hgl:=Ag x0;clear hc;have hxl:=(H.out.ln x (List.mem_of_getElem? hx)).keeps hk0 (by simp);have hxll:=H.out.ll x (List.mem_of_getElem? hx);have hq1:(P.map SV.s).take (k+1)=(P.map SV.s).take k++ [x.s]:=take_snoc' (by rw [List.getElem?_map,hx];rfl);obtain⟨⟨cy,fr,te,du,tot,cre,mi,gr,X⟩,axd,axc⟩:=x;simp only [SV.v] at x0 x1 x2 x3 x4 x5 x6 x7 x8 hxl hxll hq1;obtain⟨m,hm⟩:∃m,X.length=m:=⟨_,rfl⟩;rw [hm] at hxl hxll x4;have hcl:=fun W (hW:Keeps (fun _=>False) wr W)=>cloneLine_any W (.slice axd m axc) m (X.flatMap Ln.cells) (hxl.keeps hW (by simp)) (fun u hu=>Ln.one _ u hu) (by omega);clear hrd;have hlt0:∀b,(Value.slice adv k cv).ownBlock=some b→b<wr.heap.size:=fun b hb=>own_ltA hp.row hb;have hrowk:=hp.row;rw [hQk] at hrowk;obtain⟨Hp,Hq,HQk,Hk0,Hxl,Hq1,Hm,Hcl,Hx⟩:=hid9 hp hq hQk hk0 hxl hq1 hm hcl hx;clear hx hcl hm hq1 hxl hk0 hQk hq hp;obtain⟨Hlt0,Hrowk⟩:=hid2 hlt0 hrowk;clear hrowk hlt0
   go_wp2_with fail
   refine(Hcl.out _ (Keeps.alloc _ _)).mono ?_;rintro e w1 ⟨v1,rfl,hrow1,hk1,hnew1⟩;obtain⟨a1,c1,rfl,_,_⟩:=Aj hrow1;have hbx:=Ad (heap_alloc_new wr (.cells #[.int .i64 cy,.int .i64 fr,.int .i64 te,.int .i64 du,.slice axd m axc,.int .i64 tot,.int .i64 cre,.int .i64 mi,.bool gr] 42)) hk1 (by simp);have b0:=Aa hbx 0;have b1:=Aa hbx 1;have b2:=Aa hbx 2;have b3:=Aa hbx 3;have b4:=Aa hbx 4;have b5:=Aa hbx 5;have b6:=Aa hbx 6;have b7:=Aa hbx 7;have b8:=Aa hbx 8;have f4:=Ab hbx 4;have bl:=lt_of_block hbx;have hk2:Keeps (fun i=>i=wr.heap.size) w1 (w1.setCell ⟨wr.heap.size,4,none⟩ (.slice a1 m c1)):=Keeps.setCell _ _ _ rfl;have hk12:Keeps (fun j=>wr.heap.size≤j) wr (w1.setCell ⟨wr.heap.size,4,none⟩ (.slice a1 m c1)):=((Keeps.alloc wr _).trans (hk1.mono (by simp))).trans (hk2.mono fun i _ e=> .inr (by have e':i=wr.heap.size:=e;omega));have hrow2:=hk12.row Hrowk.out (fun b hb e=>by have:=Hlt0.out b hb;have e':wr.heap.size≤b:=e;omega);have hl2:=hk2.row hrow1 (fun b hb e=>by have:=hnew1 b hb;simp at this;have e':b=wr.heap.size:=e;omega);obtain⟨W2,hW2⟩:∃x,x=w1.setCell ⟨wr.heap.size,4,none⟩ (.slice a1 m c1):=⟨_,rfl⟩;have hrow2':=hrow2;rw [←hW2] at hk12 hl2 hrow2;obtain⟨Hrow1,Hk1,Hnew1,Hbx,Hk2,Hk12,Hl2,Hrow2⟩:=hid8 hrow1 hk1 hnew1 hbx hk2 hk12 hl2 hrow2;clear hrow2 hl2 hk12 hk2 hbx hnew1 hk1 hrow1
   go_wp2_with (at_builtin;refine Ba rfl (.tmp 16) (.tmp 18) 58 rfl 0 42 i0 _ 9 88 Tryz.underlying58 Hi.out Hi0.out Hi1.out Hi2.out rfl (by decide) (.slice adv k cv) k _ rfl (hrow2'.alloc _) _ 1 _ rfl (Reads.litAt _ _ _ 9 1 _ (by first|rfl|simp) rfl) (by simp [Value.oneCell']) (by unfold maxLen;omega) (by omega) (Nat.zero_le _) ?_)
   intro v6 w6 hrow6 hk6 hf6;obtain⟨a6,c6,rfl,_,_⟩:=Aj hrow6;rw [←hW2] at hk6;have hsz1:=Hk1.out.size;simp only [World.size_alloc] at hsz1;have hsz12:=Hk12.out.size;have hkA:Keeps (fun j=>(Value.slice adv k cv).ownBlock=some j∨wr.heap.size≤j) wr w6:=((Hk12.out.mono fun _ _ e=> .inr e).trans ((Keeps.alloc (S:=fun _=>False) W2 _).mono (by simp))).trans (hk6.mono fun i _ e=> .inl (.inl e));have hl6:=hk6.row (Hl2.out.alloc _) (fun b hb e=>by have h1:=Hlt0.out b e;have h2:=Hnew1.out b hb;simp at h2;omega);have hlf:∀b,(Value.slice a1 m c1).ownBlock=some b→w.heap.size≤b:=fun b hb=>by have h2:=Hnew1.out b hb;simp at h2;have:=Hk0.out.size;omega
   have hp6:OwnP w w6 (.slice a6 (k+1) c6) (Q++ [⟨⟨cy,fr,te,du,tot,cre,mi,gr,X⟩,a1,c1⟩]):=Hp.out.app hkA (m:=k+1) (xs:=_) (by rw [HQk.out]) (by simp [SV.cells,SV.v,Hm.out]) hrow6 (by rw [SV.v,Hm.out];exact hl6) (by rw [SV.v,Hm.out];exact hlf) (hf6.imp id fun⟨g,h1,h2⟩=>⟨g,h1,by omega⟩);have hq6:(Q++ [(⟨⟨cy,fr,te,du,tot,cre,mi,gr,X⟩,a1,c1⟩:SV)]).map SV.s=(P.map SV.s).take (k+1):=by rw [Hq1.out,List.map_append,Hq.out];rfl
   clear hrow6 hk6 hf6 hkA hl6 hlf hsz12 hsz1 hrow2' b0 b1 b2 b3 b4 b5 b6 b7 b8 f4 bl x0 x1 x2 x3 x4 x5 x6 x7 x8;obtain⟨Hp6,Hq6,HW2⟩:=hid3 hp6 hq6 hW2;clear hW2 hq6 hp6
   go_wp2_with fail
   go_roundw
   case rel=>exact⟨k+1,a6,c6,_,by omega,by go_num,by go_num,Hp6.out,Hq6.out⟩
   case measure=>simp [intOf];omega
  ·obtain rfl:k=n:=by omega
   rw [List.take_of_length_le (by rw [List.length_map,H.out.n];exact Nat.le_refl _)] at hq;obtain⟨Hp,Hq,HQk⟩:=hid3 hp hq hQk;clear hQk hq hp
   go_wp2_with fail
   go_ret;exact⟨_,Q,rfl,Hp.out,Hq.out⟩
theorem one_ansP(a b c d f g h:Int)(ad:Option Addr)(n m:Nat)(z:Bool):(#[.int .i64 0,.int .i64 0,.int .i64 0,.int .i64 0,.int .i64 0,.slice none 0 0,.int .i64 0,.int .i64 0,.slice none 0 0,.slice none 0 0,.int .i64 0,.int .i64 a,.int .i64 b,.int .i64 c,.int .i64 d,.slice ad n m,.int .i64 f,.int .i64 g,.int .i64 h,.bool z]:Array Value).all (·.oneCell')=true:=by simp [Value.oneCell']
theorem one_ansS(a b c d f:Int)(ad ae ag:Option Addr)(n m n' m' n2 m2:Nat):(#[.int .i64 0,.int .i64 0,.int .i64 0,.int .i64 a,.int .i64 b,.slice ad n m,.int .i64 c,.int .i64 d,.slice ae n' m',.slice ag n2 m2,.int .i64 f,.int .i64 0,.int .i64 0,.int .i64 0,.int .i64 0,.slice none 0 0,.int .i64 0,.int .i64 0,.int .i64 0,.bool false]:Array Value).all (·.oneCell')=true:=by simp [Value.oneCell']
set_option maxHeartbeats 800000
theorem accTell_no(ad:Option Addr)(cap n:Nat)(ref:Int)(w:World)(h:ref<1∨(n:Int)<ref):Calls Tryz.prog 40 #[.slice ad n cap,.int .i64 ref] w fun e w'=>e= .returned (.agg #[.int .i64 12,.int .i64 0,.int .i64 0,.int .i64 0,.int .i64 0,.slice none 0 0,.int .i64 0,.int .i64 0,.slice none 0 0,.slice none 0 0,.int .i64 0,.int .i64 0,.int .i64 0,.int .i64 0,.int .i64 0,.slice none 0 0,.int .i64 0,.int .i64 0,.int .i64 0,.bool false])∧Keeps (fun _=>False) w w':=by
 by_cases h1:ref<1
 ·exact jY2
 ·have h2:(n:Int)<ref:=by omega
  exact jY2
def TellPost(w:World)(s:Stm)(e:Ending)(w':World):Prop:=∃ad c,e= .returned (.agg #[.int .i64 0,.int .i64 0,.int .i64 0,.int .i64 0,.int .i64 0,.slice none 0 0,.int .i64 0,.int .i64 0,.slice none 0 0,.slice none 0 0,.int .i64 0,.int .i64 s.cycle,.int .i64 s.fr,.int .i64 s.te,.int .i64 s.due,.slice ad s.lines.length c,.int .i64 s.total,.int .i64 s.credit,.int .i64 s.min,.bool s.grace])∧
 w'.ownsRow 0 102 3 (.slice ad s.lines.length c) s.lines.length (s.lines.flatMap Ln.cells)∧Keeps (fun _=>False) w w'∧(∀b,(Value.slice ad s.lines.length c).ownBlock=some b→w.heap.size≤b)
set_option maxHeartbeats 1600000
theorem accTell_yes (ad : Option Addr) (cap n : Nat) (P : List SV) (x : SV) (k : Nat) (ref : Int) (w : World) (h : StmsR w ad n cap P) (hn : n ≤ 1000) (hk : ref - 1 = (k : Int)) (hx : P[k]? = some x) : Calls Tryz.prog 40 #[.slice ad n cap, .int .i64 ref] w (TellPost w x.s) := by
  have hkn : k < n := by rw [← h.n]; exact (List.getElem?_eq_some_iff.1 hx).1
  obtain ⟨S, hS⟩ : ∃ S, x.s = S := ⟨_, rfl⟩;rw [hS];obtain ⟨g, o, c, he, hc⟩ := h.row.elem SV.Am hx (by decide);simp only [Value.slice.injEq, true_and] at he;obtain ⟨rfl, rfl⟩ := he;have hb0 := heap_alloc_new w (.cells #[.int .i64 0, .int .i64 0, .int .i64 0, .int .i64 0, .int .i64 0, .slice none 0 0, .int .i64 0, .int .i64 0, .slice none 0 0, .slice none 0 0, .int .i64 0, .int .i64 0, .int .i64 0, .int .i64 0, .int .i64 0, .slice none 0 0, .int .i64 0, .int .i64 0, .int .i64 0, .bool false] 44);have hk0 : Keeps (fun _ => False) w (w.alloc (.cells #[.int .i64 0, .int .i64 0, .int .i64 0, .int .i64 0, .int .i64 0, .slice none 0 0, .int .i64 0, .int .i64 0, .slice none 0 0, .slice none 0 0, .int .i64 0, .int .i64 0, .int .i64 0, .int .i64 0, .int .i64 0, .slice none 0 0, .int .i64 0, .int .i64 0, .int .i64 0, .bool false] 44)) := Keeps.alloc _ _;have hcap : n ≤ cap := by obtain ⟨_, _, he, hnc, _⟩ := h.row; simp only [Value.slice.injEq, true_and] at he; omega
  have h1 : ¬ ref < 1 := by omega
  have h2 : ¬ (n : Int) < ref := by omega
  have q0 : (0 : Int) ≤ ref - 1 := by omega
  have q1 : ref - 1 ≤ ref := by omega
  have q2 : ref ≤ (cap : Int) := by omega
  have q3 : IntKind.i64.wrap (ref - 1) = ref - 1 := IntWalk.i64_in _ ⟨by omega, by omega⟩;have q4 : (ref - 1).toNat = k := by omega
  have q5 : ref.toNat = k + 1 := by omega
  have hsub : StmsR w (some ⟨g, o + k * 9, none⟩) 1 (cap - k) [x] := ⟨⟨_, _, rfl, by omega, by simp [SV.Am], by simp, fun j u hj => ⟨g, o + k * 9, rfl, by
    have hj9 : j < 9 := by have := (List.getElem?_eq_some_iff.1 hj).1; simpa [SV.cells] using this
    exact (hc j hj9).trans (by simpa using hj)⟩⟩, fun y hy => by obtain rfl : y = x := by simpa using hy
                                                                 exact h.ln y (List.mem_of_getElem? hx), fun y hy => by obtain rfl : y = x := by simpa using hy
                                                                                                                        exact h.ll y (List.mem_of_getElem? hx), rfl⟩
  have hown := fun W (hW : Keeps (fun _ => False) w W) => accOwn_any (some ⟨g, o + k * 9, none⟩) (cap - k) 1 [x] W (hsub.keep hW) (by omega);clear hc;obtain ⟨H, Hb0, Hk0, Hx, Hk, Q4, Q5, Hown, Hsub⟩ := hid9 h hb0 hk0 hx hk q4 q5 hown hsub; clear hsub hown q5 q4 hk hx hk0 hb0 h; have HS := Lib.hid hS; clear hS
  go_enter Tryz.func40, Tryz.ntmps40
  go_wp2_with fail
  rw [Q5.out, Nat.add_sub_cancel, Nat.add_sub_cancel_left];refine (Hown.out _ Hk0.out).mono ?_;rintro e w1 ⟨v1, Q, rfl, hp, hq⟩;obtain ⟨y, rfl⟩ : ∃ y, Q = [y] := by
    rcases Q with _ | ⟨y, _ | ⟨z, Q⟩⟩
    · cases hq
    · exact ⟨y, rfl⟩
    · have := congrArg List.length hq; simp at this
  have hys : y.s = S := by rw [← HS.out]; simpa using hq
  obtain ⟨g1, c1, rfl, _⟩ := Cu hp.row (by simp);simp only [List.length_cons, List.length_nil, Nat.zero_add] at hp ⊢;have hl1 := hp.ln y (by simp);have hlf := hp.lf y (by simp);have hrow := hp.row;have hfr := hp.fr.1;clear hp hq;obtain ⟨⟨cy, fr, te, du, tot, cre, mi, gr, X⟩, ay, cc⟩ := y;simp only at hys;subst hys;simp only [SV.v] at hl1 hlf;obtain ⟨m, hm⟩ : ∃ m, X.length = m := ⟨_, rfl⟩;rw [hm] at hl1 hlf;have y0 : w1.cell? ⟨g1, 0, none⟩ = some (.int .i64 cy) := Bi SV.Am hrow (k := 0) rfl 0 (by decide);have y1 : w1.cell? ⟨g1, 1, none⟩ = some (.int .i64 fr) := Bi SV.Am hrow (k := 0) rfl 1 (by decide);have y2 : w1.cell? ⟨g1, 2, none⟩ = some (.int .i64 te) := Bi SV.Am hrow (k := 0) rfl 2 (by decide);have y3 : w1.cell? ⟨g1, 3, none⟩ = some (.int .i64 du) := Bi SV.Am hrow (k := 0) rfl 3 (by decide);have y4 : w1.cell? ⟨g1, 4, none⟩ = some (.slice ay m cc) := by rw [← hm]; exact Bi SV.Am hrow (k := 0) rfl 4 (by decide)
  have y5 : w1.cell? ⟨g1, 5, none⟩ = some (.int .i64 tot) := Bi SV.Am hrow (k := 0) rfl 5 (by decide);have y6 : w1.cell? ⟨g1, 6, none⟩ = some (.int .i64 cre) := Bi SV.Am hrow (k := 0) rfl 6 (by decide);have y7 : w1.cell? ⟨g1, 7, none⟩ = some (.int .i64 mi) := Bi SV.Am hrow (k := 0) rfl 7 (by decide);have y8 : w1.cell? ⟨g1, 8, none⟩ = some (.bool gr) := Bi SV.Am hrow (k := 0) rfl 8 (by decide);have yl := Ag y0;have hb1 := Ad Hb0.out hfr (by simp);have hk01 := Hk0.out.nt hfr;have hpl := (Ca w1 w.heap.size #[.int .i64 0, .int .i64 0, .int .i64 0, .int .i64 0, .int .i64 0, .slice none 0 0, .int .i64 0, .int .i64 0, .slice none 0 0, .slice none 0 0, .int .i64 0, .int .i64 cy, .int .i64 fr, .int .i64 te, .int .i64 du, .slice ay m cc, .int .i64 tot, .int .i64 cre, .int .i64 mi, .bool gr]).row hl1 (fun b hb e => by have := hlf b hb; simp at this; have e' : b = w.heap.size := e; omega);obtain ⟨Hl1, Hlf, Hrow, Hfr, Hm, Hb1, Hk01, Hpl⟩ := hid8 hl1 hlf hrow hfr hm hb1 hk01 hpl; clear hpl hk01 hb1 hm hfr hrow hlf hl1;obtain ⟨hput1, hput2⟩ := putRow (V := #[.int .i64 0, .int .i64 0, .int .i64 0, .int .i64 0, .int .i64 0, .slice none 0 0, .int .i64 0, .int .i64 0, .slice none 0 0, .slice none 0 0, .int .i64 0, .int .i64 cy, .int .i64 fr, .int .i64 te, .int .i64 du, .slice ay m cc, .int .i64 tot, .int .i64 cre, .int .i64 mi, .bool gr]) Hb1.out Hk01.out (Nat.le_refl _);obtain ⟨Hput1, Hput2⟩ := hid2 hput1 hput2; clear hput2 hput1
  go_wp2_with (refine wpList_store_row rfl 44 (.tmp 4) (.tmp 22) rfl w.heap.size #[.int .i64 0, .int .i64 0, .int .i64 0, .int .i64 0, .int .i64 0, .slice none 0 0, .int .i64 0, .int .i64 0, .slice none 0 0, .slice none 0 0, .int .i64 0, .int .i64 cy, .int .i64 fr, .int .i64 te, .int .i64 du, .slice ay m cc, .int .i64 tot, .int .i64 cre, .int .i64 mi, .bool gr] rfl rfl 44 #[.int .i64 0, .int .i64 0, .int .i64 0, .int .i64 0, .int .i64 0, .slice none 0 0, .int .i64 0, .int .i64 0, .slice none 0 0, .slice none 0 0, .int .i64 0, .int .i64 0, .int .i64 0, .int .i64 0, .int .i64 0, .slice none 0 0, .int .i64 0, .int .i64 0, .int .i64 0, .bool false] Hb1.out Ar rfl (one_ansP cy fr te du tot cre mi ay m cc gr) ?_)
  exact bodyPost_ret (results_cell_row rfl _ _ w.heap.size 44 #[.int .i64 0, .int .i64 0, .int .i64 0, .int .i64 0, .int .i64 0, .slice none 0 0, .int .i64 0, .int .i64 0, .slice none 0 0, .slice none 0 0, .int .i64 0, .int .i64 cy, .int .i64 fr, .int .i64 te, .int .i64 du, .slice ay m cc, .int .i64 tot, .int .i64 cre, .int .i64 mi, .bool gr] _ _ rfl Hput1.out Tryz.underlying44 rfl Ar) rfl ⟨ay, cc, by rw [Hm.out], by rw [Hm.out]; exact Hpl.out, Hput2.out, by rw [Hm.out]; exact fun b hb => by have := Hlf.out b hb; simp at this; omega⟩
set_option maxHeartbeats 400000
theorem cloneAdj_any(w:World)(v:Value)(n:Nat)(xs:List Value)(hr:Reads w 9 v n xs)(h1:∀u∈xs,u.oneCell'=true)(hn:n≤1000000000000):
  Calls Tryz.prog 50 #[v] w fun e w'=>∃v',e= .returned v'∧w'.ownsRow 0 70 9 v' n xs∧Keeps (fun _=>False) w w'∧(∀k,v'.ownBlock=some k→w.heap.size≤k):=by
 obtain⟨i0,hi,hz0,hz1,hz2⟩:=info_parts info_tAdjust;have hr':=hr;obtain⟨ad,c,rfl,hnc,hl,hnone,hcells⟩:=hr';clear hcells;have heq:=fun(wx:World) (ad:Option Addr) (l c:Nat)=>Lib.run_eql_slice_nil (P:=Tryz.prog) wx 66 _ ad l c 0 0 Tryz.underlying66;rcases ad with _|a
 ·obtain rfl:=hnone rfl;obtain rfl:n=0:=by omega
  obtain rfl:xs= []:=List.eq_nil_of_length_eq_zero (by simpa using hl);have hr0:=Lib.hid hr;clear hr
  go_enter Tryz.func50,Tryz.ntmps50
  exact jZ42
 ·have Hr:=Lib.hid hr;clear hr;obtain⟨Hl,Hnone,H1⟩:=hid3 hl hnone h1;clear h1 hnone hl
  go_enter Tryz.func50,Tryz.ntmps50
  go_wp2_with (at_builtin;refine Ba rfl (.tmp 5) (.tmp 6) 66 rfl 0 70 i0 _ 9 72 Tryz.underlying66 hi hz0 hz1 hz2 rfl (by decide) _ 0 [] rfl (World.ownsRow_lit w #[] 0 (by omega) (by unfold maxLen;omega) rfl) _ n xs rfl (Hr.out.keeps (Keeps.alloc (S:=fun _=>False) _ _) (by simp)) H1.out (by unfold maxLen;omega) (by omega) (by omega) ?_)
  intro v' w1 hown1 hk1 hfr;have hend:w1.ownsRow 0 70 9 v' n xs∧Keeps (fun _=>False) w w1∧(∀k,v'.ownBlock=some k→w.heap.size≤k):=by
   exact jZ16
  exact jZ57
theorem AcAt.stmI{w:World}{B:Nat}{x:AcV}{a:Ac}(h:AcAt w B x a):∃ad c,x.vi= .slice ad x.I.length c∧StmsR w ad x.I.length c x.I∧x.I.length≤1000:=by
 have hn:=h.ok.nums;have hl:x.I.length=a.iss.length:=by rw [←h.is,List.length_map]
 obtain⟨ad,c,h1,h2⟩:=StmsR.ofP h.iss h.iln fun y hy=>by
  have:y.s∈a.iss:=by rw [←h.is];exact List.mem_map.2 ⟨y,hy,rfl⟩
  have h3:=h.ok.ill _ this;have:=hn.n8;omega
 exact⟨ad,c,h1,h2,by rw [hl,h.ok.il];have:=hn.o3;omega⟩
set_option maxHeartbeats 800000
theorem accIssued_any(B:Nat)(x:AcV)(a:Ac)(w:World)(h:AcAt w B x a):Calls Tryz.prog 21 #[(.pointer (some ⟨B,0,none⟩))] w (OwnPost w a.iss):=by
 obtain⟨ad,c,hv,hs,hl⟩:=h.stmI;have hown:=fun W (hW:Keeps (fun _=>False) w W)=>accOwn_any ad c x.I.length x.I W (hs.keep hW) hl;rw [h.is] at hown;obtain⟨n,hn⟩:∃n,x.I.length=n:=⟨_,rfl⟩;rw [hn] at hown hv;have c16:w.cell? ⟨B,16,none⟩=some x.vi:=Aa h.blk 16;have hbl:=lt_of_block h.blk;rw [hv] at c16;clear hl;obtain⟨H,Hv,Hs,Hown,Hn⟩:=hid5 h hv hs hown hn;clear hn hown hs hv h
 go_enter Tryz.func21,Tryz.ntmps21
 go_wp2_with fail
 refine(Hown.out _ (Keeps.refl _ _)).mono ?_;rintro e w1 ⟨v,Q,rfl,hp,hq⟩;obtain⟨Hp,Hq⟩:=hid2 hp hq;clear hq hp
 go_wp2_with fail
 go_ret;exact⟨_,Q,rfl,Hp.out,Hq.out⟩
def AdjPost(w:World)(L:List Adj)(e:Ending)(w':World):Prop:=∃v,e= .returned v∧w'.ownsRow 0 70 9 v L.length (L.flatMap Adj.cells)∧Fresh w w' v
theorem accAdjusts_any(B:Nat)(x:AcV)(a:Ac)(w:World)(h:AcAt w B x a)(hs:a.seq≤100000):Calls Tryz.prog 26 #[(.pointer (some ⟨B,0,none⟩))] w (AdjPost w a.adj):=by
 have c17:w.cell? ⟨B,17,none⟩=some x.va:=Aa h.blk 17;have hbl:=lt_of_block h.blk;have hcl:=fun W (hW:Keeps (fun _=>False) w W)=>cloneAdj_any W x.va a.adj.length _ ((Reads.Bh h.adj).keeps hW (by simp)) (fun u hu=>Adj.one _ u hu) (by have:=h.ok.aj;omega);obtain⟨ad,c,hv,_,_⟩:=Aj h.adj;rw [hv] at c17 hcl;obtain⟨H,Hv,Hcl⟩:=hid3 h hv hcl;clear hcl hv h
 go_enter Tryz.func26,Tryz.ntmps26
 go_wp2_with fail
 refine(Hcl.out _ (Keeps.refl _ _)).mono ?_;rintro e w1 ⟨v,rfl,hrow,hk,hf⟩;obtain⟨Hrow,Hk,Hf⟩:=hid3 hrow hk hf;clear hf hk hrow
 go_wp2_with fail
 go_ret;exact⟨_,rfl,Hrow.out,Hk.out,Hf.out⟩
theorem accEvents_any(B:Nat)(x:AcV)(a:Ac)(w:World)(h:AcAt w B x a):Calls Tryz.prog 28 #[(.pointer (some ⟨B,0,none⟩))] w (GivesEv w a.L):=by
 have c9:w.cell? ⟨B,9,none⟩=some (.pointer (some ⟨x.bl,0,none⟩)):=Aa h.blk 9;have hbl:=lt_of_block h.blk;have hal:=fun W (hW:Keeps (fun _=>False) w W)=>datAll_any x.bl a.t x.vtl x.vl a.L W (h.dl.keep hW) (by have:=h.ok.nums.ll;omega);obtain⟨H,Hal⟩:=hid2 h hal;clear hal h
 go_enter Tryz.func28,Tryz.ntmps28
 go_wp2_with fail
 refine(Hal.out _ (Keeps.refl _ _)).mono ?_;rintro e w1 ⟨v1,rfl,hrd,hk,hown⟩;obtain⟨ad1,c1,rfl,_⟩:=id hrd;have HP:=Lib.hid (⟨_,rfl,hrd,hk,hown⟩:GivesEv _ _ (.returned (.slice ad1 _ c1)) w1);clear hrd hk hown
 go_wp2_with fail
 go_ret;exact HP.out
def stm00:Stm:=⟨0,0,0,0,0,0,0,false, []⟩
def AnsIs(_ W:World)(z r cy:Int)(s:PSt)(p:Stm)(v:Value):Prop:=∃a1 c1 a2 c2 a3 c3 a4 c4,v= .agg #[.int .i64 z,.int .i64 r,.int .i64 cy,.int .i64 s.today,.int .i64 s.cyc,.slice a1 s.bal.length c1,.int .i64 s.cr,.int .i64 s.du,.slice a2 s.R.length c2,.slice a3 s.D.length c3,.int .i64 s.seq,
 .int .i64 p.cycle,.int .i64 p.fr,.int .i64 p.te,.int .i64 p.due,.slice a4 p.lines.length c4,.int .i64 p.total,.int .i64 p.credit,.int .i64 p.min,.bool p.grace]∧
 W.ownsRow 0 2 1 (.slice a1 s.bal.length c1) s.bal.length (s.bal.flatMap i64c)∧W.ownsRow 0 2 1 (.slice a2 s.R.length c2) s.R.length (s.R.flatMap i64c)∧W.ownsRow 0 109 5 (.slice a3 s.D.length c3) s.D.length (s.D.flatMap Disp.cells)∧W.ownsRow 0 102 3 (.slice a4 p.lines.length c4) p.lines.length (p.lines.flatMap Ln.cells)
theorem AnsIs.mk0(w W:World)(z r cy:Int):AnsIs w W z r cy st00 stm00 (.agg #[.int .i64 z,.int .i64 r,.int .i64 cy,.int .i64 0,.int .i64 0,.slice none 0 0,.int .i64 0,.int .i64 0,.slice none 0 0,.slice none 0 0,.int .i64 0,.int .i64 0,.int .i64 0,.int .i64 0,.int .i64 0,.slice none 0 0,.int .i64 0,.int .i64 0,.int .i64 0,.bool false]):=⟨none,0,none,0,none,0,none,0,rfl,World.ownsRow_nil _ _ _ _,World.ownsRow_nil _ _ _ _,World.ownsRow_nil _ _ _ _,World.ownsRow_nil _ _ _ _⟩
def tellE(M:List Stm)(ref:Int):Int:=if ref<1∨(M.length:Int)<ref then 12 else 0
def tellP(M:List Stm)(ref:Int):Stm:=if ref<1∨(M.length:Int)<ref then stm00 else M.getD (ref-1).toNat stm00
def Ac.dz(a:Ac)(c:Cmd):Int:=if c.kind=8 then a.te c.day else if c.kind=9 then 0 else if c.kind=10 then tellE a.iss c.ref else if c.kind=11 then tellE a.s.out c.ref else if 1≤c.kind∧c.kind≤7 then a.xe c else 1
def Ac.dp(a:Ac)(c:Cmd):Stm:=if c.kind=10 then tellP a.iss c.ref else if c.kind=11 then tellP a.s.out c.ref else stm00
def Ac.act(a:Ac)(c:Cmd):Ac:=if c.kind=8 then a.tick c.day else if 1≤c.kind∧c.kind≤7 then a.chg c else a
theorem AnsIs.setRow{w W:World}{R:Nat}{V:Array Value}{z r cy:Int}{s:PSt}{p:Stm}{v:Value}{C:Array Value}(h:AnsIs w W z r cy s p v)(hR:W.heap[R]?=some (.cells C 44 (0,0))):AnsIs w (W.setRow R V) z r cy s p v:=by
 obtain⟨a1,c1,a2,c2,a3,c3,a4,c4,he,h1,h2,h3,h4⟩:=h;have hk:=Ca W R V;exact⟨a1,c1,a2,c2,a3,c3,a4,c4,he,hk.row h1 fun b hb e=>Aq h1 hR (by decide) (by rw [←show b=R from e];exact hb),hk.row h2 fun b hb e=>Aq h2 hR (by decide) (by rw [←show b=R from e];exact hb),
  hk.row h3 fun b hb e=>Aq h3 hR (by decide) (by rw [←show b=R from e];exact hb),hk.row h4 fun b hb e=>Aq h4 hR (by decide) (by rw [←show b=R from e];exact hb)⟩
set_option maxHeartbeats 1600000
theorem accDo_none(B:Nat)(x:AcV)(a:Ac)(c:Cmd)(w:World)(h:AcAt w B x a)(hk:¬(1≤c.kind∧c.kind≤11)):
  Calls Tryz.prog 15 #[(.pointer (some ⟨B,0,none⟩)),.agg #[.int .i64 c.kind,.int .i64 c.day,.int .i64 c.tranche,.int .i64 c.amount,.int .i64 c.ref]] w fun e w'=>e= .returned (.agg #[.int .i64 1,.int .i64 0,.int .i64 0,.int .i64 0,.int .i64 0,.slice none 0 0,.int .i64 0,.int .i64 0,.slice none 0 0,.slice none 0 0,.int .i64 0,.int .i64 0,.int .i64 0,.int .i64 0,.int .i64 0,.slice none 0 0,.int .i64 0,.int .i64 0,.int .i64 0,.bool false])∧AcPost w B x a w':=by
 have hcb:chB c=false:=by simp [chB];omega
 have hcc:=fun W=>accChanges_any c W;rw [hcb] at hcc;obtain⟨ki,da,tr,am,re⟩:=c;simp only at hk hcc⊢;have k8:(ki==8)=false:=by simp;omega
 have k9:(ki==9)=false:=by simp;omega
 have k10:(ki==10)=false:=by simp;omega
 have k11:(ki==11)=false:=by simp;omega
 obtain⟨W0,hW0⟩:∃x,x=(w.alloc (.cells #[.int .i64 ki,.int .i64 da,.int .i64 tr,.int .i64 am,.int .i64 re] 47)).alloc (.cells #[.int .i64 0,.int .i64 0,.int .i64 0,.int .i64 0,.int .i64 0,.slice none 0 0,.int .i64 0,.int .i64 0,.slice none 0 0,.slice none 0 0,.int .i64 0,.int .i64 0,.int .i64 0,.int .i64 0,.int .i64 0,.slice none 0 0,.int .i64 0,.int .i64 0,.int .i64 0,.bool false] 44):=⟨_,rfl⟩;have hc0:W0.heap[w.heap.size]?=some (.cells #[.int .i64 ki,.int .i64 da,.int .i64 tr,.int .i64 am,.int .i64 re] 47 (0,0)):=by rw [hW0];exact Au (heap_alloc_new w _) _
 have hr0:W0.heap[w.heap.size+1]?=some (.cells #[.int .i64 0,.int .i64 0,.int .i64 0,.int .i64 0,.int .i64 0,.slice none 0 0,.int .i64 0,.int .i64 0,.slice none 0 0,.slice none 0 0,.int .i64 0,.int .i64 0,.int .i64 0,.int .i64 0,.int .i64 0,.slice none 0 0,.int .i64 0,.int .i64 0,.int .i64 0,.bool false] 44 (0,0)):=by rw [hW0];exact Ay _ _ (by simp)
 have hk0:Keeps (fun _=>False) w W0:=by rw [hW0];(repeat (first|exact Keeps.refl _ _|exact Keeps.alloc _ _|exact Keeps.drew _|exact Keeps.drewN _ _|refine Keeps.Ap ?_|refine Keeps.Al ?_|refine Keeps.Ae ?_))
 obtain⟨H,Hcc,Hk,Hcb,Hc0,Hr0,Hk0⟩:=hid7 h hcc hk hcb hc0 hr0 hk0;clear hk0 hr0 hc0 hcb hk hcc h
 go_enter Tryz.func15,Tryz.ntmps15
 go_wp2_with fail
 rw [←hW0];clear hW0;refine(Hcc.out W0).mono ?_;rintro e w1 ⟨rfl,hk1⟩;clear k8 k9 k10 k11;have hkw1:=Hk0.out.nt hk1;have hr1:=Ad Hr0.out hk1 (by simp);clear hk1;obtain⟨Hkw1,Hr1⟩:=hid2 hkw1 hr1;clear hr1 hkw1
 go_wp2_with fail
 refine(Cb 1 _).mono ?_;rintro e w2 ⟨rfl,hk2⟩;have hR:=Ad Hr1.out hk2 (by simp);have hput:=setRow_heap w2 (w.heap.size+1) #[.int .i64 0,.int .i64 0,.int .i64 0,.int .i64 0,.int .i64 0,.slice none 0 0,.int .i64 0,.int .i64 0,.slice none 0 0,.slice none 0 0,.int .i64 0,.int .i64 0,.int .i64 0,.int .i64 0,.int .i64 0,.slice none 0 0,.int .i64 0,.int .i64 0,.int .i64 0,.bool false] #[.int .i64 1,.int .i64 0,.int .i64 0,.int .i64 0,.int .i64 0,.slice none 0 0,.int .i64 0,.int .i64 0,.slice none 0 0,.slice none 0 0,.int .i64 0,.int .i64 0,.int .i64 0,.int .i64 0,.int .i64 0,.slice none 0 0,.int .i64 0,.int .i64 0,.int .i64 0,.bool false] 44 _ hR;have hone:=Br 1 0 0;have hq:=(AcPost.ret (V:= #[.int .i64 1,.int .i64 0,.int .i64 0,.int .i64 0,.int .i64 0,.slice none 0 0,.int .i64 0,.int .i64 0,.slice none 0 0,.slice none 0 0,.int .i64 0,.int .i64 0,.int .i64 0,.int .i64 0,.int .i64 0,.slice none 0 0,.int .i64 0,.int .i64 0,.int .i64 0,.bool false]) H.out (Hkw1.out.nt hk2) (AcPost.same (H.out.keep0 (Hkw1.out.nt hk2)) (Keeps.refl _ _)) hR (Nat.le_succ _)).2;clear hk2;obtain⟨HR,Hput,Hone,Hq⟩:=hid4 hR hput hone hq;clear hq hone hput hR
 go_wp2_with (refine wpList_store_row rfl 44 (.tmp 4) (.tmp 42) rfl (w.heap.size+1) #[.int .i64 1,.int .i64 0,.int .i64 0,.int .i64 0,.int .i64 0,.slice none 0 0,.int .i64 0,.int .i64 0,.slice none 0 0,.slice none 0 0,.int .i64 0,.int .i64 0,.int .i64 0,.int .i64 0,.int .i64 0,.slice none 0 0,.int .i64 0,.int .i64 0,.int .i64 0,.bool false] rfl rfl 44 #[.int .i64 0,.int .i64 0,.int .i64 0,.int .i64 0,.int .i64 0,.slice none 0 0,.int .i64 0,.int .i64 0,.slice none 0 0,.slice none 0 0,.int .i64 0,.int .i64 0,.int .i64 0,.int .i64 0,.int .i64 0,.slice none 0 0,.int .i64 0,.int .i64 0,.int .i64 0,.bool false] HR.out Ar rfl Hone.out ?_)
 exact bodyPost_ret (results_cell_row rfl _ _ (w.heap.size+1) 44 #[.int .i64 1,.int .i64 0,.int .i64 0,.int .i64 0,.int .i64 0,.slice none 0 0,.int .i64 0,.int .i64 0,.slice none 0 0,.slice none 0 0,.int .i64 0,.int .i64 0,.int .i64 0,.int .i64 0,.int .i64 0,.slice none 0 0,.int .i64 0,.int .i64 0,.int .i64 0,.bool false] _ _ rfl Hput.out Tryz.underlying44 rfl Ar) rfl ⟨rfl,Hq.out⟩
theorem accDo_tell(B:Nat)(x:AcV)(a:Ac)(c:Cmd)(w:World)(h:AcAt w B x a)(hk:c.kind=9):
  Calls Tryz.prog 15 #[(.pointer (some ⟨B,0,none⟩)),.agg #[.int .i64 c.kind,.int .i64 c.day,.int .i64 c.tranche,.int .i64 c.amount,.int .i64 c.ref]] w fun e w'=>∃v,e= .returned v∧AnsIs w w' 0 0 0 a.st stm00 v∧AcPost w B x a w':=by
 obtain⟨ki,da,tr,am,re⟩:=c;simp only at hk⊢;subst hk;have hst:=fun(W:World) (hW:Keeps (fun _=>False) w W)=>accState_any B x a W (h.keep0 hW);obtain⟨n,hN⟩:∃n,a.s.p.bal.length=n:=⟨_,rfl⟩;obtain⟨m,hM⟩:∃n,a.s.R.length=n:=⟨_,rfl⟩;obtain⟨q,hQ⟩:∃n,a.D.length=n:=⟨_,rfl⟩;obtain⟨td,htd⟩:∃n,a.today=n:=⟨_,rfl⟩;obtain⟨cy,hcy⟩:∃n,a.cyc a.today=n:=⟨_,rfl⟩;obtain⟨sq,hsq⟩:∃n,a.seq=n:=⟨_,rfl⟩;obtain⟨cr,hcr⟩:∃n,a.s.p.cr=n:=⟨_,rfl⟩;obtain⟨du,hdu⟩:∃n,a.s.p.du=n:=⟨_,rfl⟩;unfold StatePost at hst;rw [hN,hM,hQ,hcy,htd,hsq,hcr,hdu] at hst;obtain⟨ki,hki⟩:∃k:Int,9=k:=⟨_,rfl⟩;rw [hki];obtain⟨W0,hW0⟩:∃x,x=(w.alloc (.cells #[.int .i64 ki,.int .i64 da,.int .i64 tr,.int .i64 am,.int .i64 re] 47)).alloc (.cells #[.int .i64 0,.int .i64 0,.int .i64 0,.int .i64 0,.int .i64 0,.slice none 0 0,.int .i64 0,.int .i64 0,.slice none 0 0,.slice none 0 0,.int .i64 0,.int .i64 0,.int .i64 0,.int .i64 0,.int .i64 0,.slice none 0 0,.int .i64 0,.int .i64 0,.int .i64 0,.bool false] 44):=⟨_,rfl⟩;have hc0:W0.heap[w.heap.size]?=some (.cells #[.int .i64 ki,.int .i64 da,.int .i64 tr,.int .i64 am,.int .i64 re] 47 (0,0)):=by rw [hW0];exact Au (heap_alloc_new w _) _
 have hr0:W0.heap[w.heap.size+1]?=some (.cells #[.int .i64 0,.int .i64 0,.int .i64 0,.int .i64 0,.int .i64 0,.slice none 0 0,.int .i64 0,.int .i64 0,.slice none 0 0,.slice none 0 0,.int .i64 0,.int .i64 0,.int .i64 0,.int .i64 0,.int .i64 0,.slice none 0 0,.int .i64 0,.int .i64 0,.int .i64 0,.bool false] 44 (0,0)):=by rw [hW0];exact Ay _ _ (by simp)
 have hk0:Keeps (fun _=>False) w W0:=by rw [hW0];(repeat (first|exact Keeps.refl _ _|exact Keeps.alloc _ _|exact Keeps.drew _|exact Keeps.drewN _ _|refine Keeps.Ap ?_|refine Keeps.Al ?_|refine Keeps.Ae ?_))
 rw [←hki] at hW0 hc0⊢;obtain⟨H,Hst,HN,HM,HQ,Htd,Hcy,Hsq,Hcr⟩:=hid9 h hst hN hM hQ htd hcy hsq hcr;clear hcr hsq hcy htd hQ hM hN hst h;obtain⟨Hdu,Hki,Hc0,Hr0,Hk0⟩:=hid5 hdu hki hc0 hr0 hk0;clear hk0 hr0 hc0 hki hdu
 go_enter Tryz.func15,Tryz.ntmps15
 go_wp2_with fail
 rw [←hW0];clear hW0;refine(Hst.out W0 Hk0.out).mono ?_;rintro e w1 ⟨a1,c1,a2,c2,a3,c3,rfl,h1,h2,h3,hk1,hf⟩;rw [HN.out] at h1;rw [HM.out] at h2;rw [HQ.out] at h3;have hR:=Ad Hr0.out hk1 (by simp);have hput:=setRow_heap w1 (w.heap.size+1) #[.int .i64 0,.int .i64 0,.int .i64 0,.int .i64 0,.int .i64 0,.slice none 0 0,.int .i64 0,.int .i64 0,.slice none 0 0,.slice none 0 0,.int .i64 0,.int .i64 0,.int .i64 0,.int .i64 0,.int .i64 0,.slice none 0 0,.int .i64 0,.int .i64 0,.int .i64 0,.bool false] #[.int .i64 0,.int .i64 0,.int .i64 0,.int .i64 td,.int .i64 cy,.slice a1 n c1,.int .i64 cr,.int .i64 du,.slice a2 m c2,.slice a3 q c3,.int .i64 sq,.int .i64 0,.int .i64 0,.int .i64 0,.int .i64 0,.slice none 0 0,.int .i64 0,.int .i64 0,.int .i64 0,.bool false] 44 _ hR;have hone:=one_ansS td cy cr du sq a1 a2 a3 n c1 m c2 q c3;have hq:=(AcPost.ret (V:= #[.int .i64 0,.int .i64 0,.int .i64 0,.int .i64 td,.int .i64 cy,.slice a1 n c1,.int .i64 cr,.int .i64 du,.slice a2 m c2,.slice a3 q c3,.int .i64 sq,.int .i64 0,.int .i64 0,.int .i64 0,.int .i64 0,.slice none 0 0,.int .i64 0,.int .i64 0,.int .i64 0,.bool false]) H.out (Hk0.out.nt hk1) (AcPost.same (H.out.keep0 (Hk0.out.nt hk1)) (Keeps.refl _ _)) hR (Nat.le_succ _)).2;have hans:AnsIs w w1 0 0 0 a.st stm00 (.agg #[.int .i64 0,.int .i64 0,.int .i64 0,.int .i64 td,.int .i64 cy,.slice a1 n c1,.int .i64 cr,.int .i64 du,.slice a2 m c2,.slice a3 q c3,.int .i64 sq,.int .i64 0,.int .i64 0,.int .i64 0,.int .i64 0,.slice none 0 0,.int .i64 0,.int .i64 0,.int .i64 0,.bool false]):=by
  refine⟨a1,c1,a2,c2,a3,c3,none,0, ?_, ?_, ?_, ?_,World.ownsRow_nil _ _ _ _⟩
  ·simp only [Ac.st];rw [HN.out,HM.out,HQ.out,Hcy.out,Htd.out,Hsq.out,Hcr.out,Hdu.out];rfl
  ·simp only [Ac.st];rw [HN.out];exact h1
  ·simp only [Ac.st];rw [HM.out];exact h2
  ·simp only [Ac.st];rw [HQ.out];exact h3
 have hans2:=hans.setRow (V:= #[.int .i64 0,.int .i64 0,.int .i64 0,.int .i64 td,.int .i64 cy,.slice a1 n c1,.int .i64 cr,.int .i64 du,.slice a2 m c2,.slice a3 q c3,.int .i64 sq,.int .i64 0,.int .i64 0,.int .i64 0,.int .i64 0,.slice none 0 0,.int .i64 0,.int .i64 0,.int .i64 0,.bool false]) hR;clear hk1 h1 h2 h3 hf hans;obtain⟨HR,Hput,Hone,Hq,Hans2⟩:=hid5 hR hput hone hq hans2;clear hans2 hq hone hput hR
 go_wp2_with (refine wpList_store_row rfl 44 (.tmp 4) (.tmp 20) rfl (w.heap.size+1) #[.int .i64 0,.int .i64 0,.int .i64 0,.int .i64 td,.int .i64 cy,.slice a1 n c1,.int .i64 cr,.int .i64 du,.slice a2 m c2,.slice a3 q c3,.int .i64 sq,.int .i64 0,.int .i64 0,.int .i64 0,.int .i64 0,.slice none 0 0,.int .i64 0,.int .i64 0,.int .i64 0,.bool false] rfl rfl 44 #[.int .i64 0,.int .i64 0,.int .i64 0,.int .i64 0,.int .i64 0,.slice none 0 0,.int .i64 0,.int .i64 0,.slice none 0 0,.slice none 0 0,.int .i64 0,.int .i64 0,.int .i64 0,.int .i64 0,.int .i64 0,.slice none 0 0,.int .i64 0,.int .i64 0,.int .i64 0,.bool false] HR.out Ar rfl Hone.out ?_)
 exact bodyPost_ret (results_cell_row rfl _ _ (w.heap.size+1) 44 #[.int .i64 0,.int .i64 0,.int .i64 0,.int .i64 td,.int .i64 cy,.slice a1 n c1,.int .i64 cr,.int .i64 du,.slice a2 m c2,.slice a3 q c3,.int .i64 sq,.int .i64 0,.int .i64 0,.int .i64 0,.int .i64 0,.slice none 0 0,.int .i64 0,.int .i64 0,.int .i64 0,.bool false] _ _ rfl Hput.out Tryz.underlying44 rfl Ar) rfl ⟨_,rfl,Hans2.out,Hq.out⟩
def pgS(B C j:Nat)(v:Value)(re:Int)(w:World):Prop:=w.cell? ⟨B,j,none⟩=some v∧w.cell? ⟨C,4,none⟩=some (.int .i64 re)
theorem pgS.keep{B C j:Nat}{v:Value}{re:Int}{w w':World}{S:Nat→Prop}(h:pgS B C j v re w)(hk:Keeps S w w')(h1:¬S B)(h2:¬S C):pgS B C j v re w':=⟨(hk.cell (Ag h.1) h1).trans h.1,(hk.cell (Ag h.2) h2).trans h.2⟩
theorem tellE_no{M:List Stm}{r:Int}(h:r<1∨(M.length:Int)<r):tellE M r=12∧tellP M r=stm00:=⟨by unfold tellE;rw [if_pos h],by unfold tellP;rw [if_pos h]⟩
theorem tellE_yes{M:List Stm}{r:Int}(h:¬(r<1∨(M.length:Int)<r)){k:Nat}(hk:r-1=(k:Int)){s:Stm}(hs:M[k]?=some s):tellE M r=0∧tellP M r=s:=⟨by unfold tellE;rw [if_neg h],by unfold tellP;rw [if_neg h,hk,Int.toNat_natCast,List.getD_eq_getElem?_getD,hs];rfl⟩
theorem accDo_page(B:Nat)(x:AcV)(a:Ac)(c:Cmd)(w:World)(h:AcAt w B x a)(hk:c.kind=10):
  Calls Tryz.prog 15 #[(.pointer (some ⟨B,0,none⟩)),.agg #[.int .i64 c.kind,.int .i64 c.day,.int .i64 c.tranche,.int .i64 c.amount,.int .i64 c.ref]] w fun e w'=>∃v,e= .returned v∧AnsIs w w' (tellE a.iss c.ref) 0 0 st00 (tellP a.iss c.ref) v∧AcPost w B x a w':=by
 obtain⟨ki,da,tr,am,re⟩:=c;simp only at hk⊢;subst hk;obtain⟨ad,cp,hv,hsr,hsl⟩:=h.stmI;have hlen:(x.I).length=(a.iss).length:=by rw [←h.is,List.length_map]
 obtain⟨N,hN⟩:∃n,(x.I).length=n:=⟨_,rfl⟩;rw [hN] at hv hsr hsl hlen;obtain⟨ki,hki⟩:∃k:Int,10=k:=⟨_,rfl⟩;rw [hki];obtain⟨W0,hW0⟩:∃x,x=(w.alloc (.cells #[.int .i64 ki,.int .i64 da,.int .i64 tr,.int .i64 am,.int .i64 re] 47)).alloc (.cells #[.int .i64 0,.int .i64 0,.int .i64 0,.int .i64 0,.int .i64 0,.slice none 0 0,.int .i64 0,.int .i64 0,.slice none 0 0,.slice none 0 0,.int .i64 0,.int .i64 0,.int .i64 0,.int .i64 0,.int .i64 0,.slice none 0 0,.int .i64 0,.int .i64 0,.int .i64 0,.bool false] 44):=⟨_,rfl⟩;have hc0:W0.heap[w.heap.size]?=some (.cells #[.int .i64 ki,.int .i64 da,.int .i64 tr,.int .i64 am,.int .i64 re] 47 (0,0)):=by rw [hW0];exact Au (heap_alloc_new w _) _
 have hr0:W0.heap[w.heap.size+1]?=some (.cells #[.int .i64 0,.int .i64 0,.int .i64 0,.int .i64 0,.int .i64 0,.slice none 0 0,.int .i64 0,.int .i64 0,.slice none 0 0,.slice none 0 0,.int .i64 0,.int .i64 0,.int .i64 0,.int .i64 0,.int .i64 0,.slice none 0 0,.int .i64 0,.int .i64 0,.int .i64 0,.bool false] 44 (0,0)):=by rw [hW0];exact Ay _ _ (by simp)
 have hk0:Keeps (fun _=>False) w W0:=by rw [hW0];(repeat (first|exact Keeps.refl _ _|exact Keeps.alloc _ _|exact Keeps.drew _|exact Keeps.drewN _ _|refine Keeps.Ap ?_|refine Keeps.Al ?_|refine Keeps.Ae ?_))
 rw [←hki] at hW0 hc0⊢;have hbl:B<W0.heap.size:=by have:=lt_of_block h.blk;have:=hk0.size;omega
 have hS:pgS B w.heap.size 16 (.slice ad N cp) re W0:=⟨by rw [←hv];exact Aa (h.keep0 hk0).blk 16,Aa hc0 4⟩;have nBR:¬B=w.heap.size+1:=fun e=>by have:=lt_of_block h.blk;omega
 have nCR:¬w.heap.size=w.heap.size+1:=by omega
 by_cases hr:re<1∨(N:Int)<re
 ·have htl:=fun W=>accTell_no ad cp N re W hr;have hte:=tellE_no (M:=a.iss) (r:=re) (by rw [←hlen];exact hr);clear hr;obtain⟨H,Hv,Hsr,Hsl,Hlen,HN,Hki,Hc0,Hr0⟩:=hid9 h hv hsr hsl hlen hN hki hc0 hr0;clear hr0 hc0 hki hN hlen hsl hsr hv h;obtain⟨Hk0,HS,Htl,Hte⟩:=hid4 hk0 hS htl hte;clear hte htl hS hk0
  go_enter Tryz.func15,Tryz.ntmps15
  go_upto_region 9 with fail
  rw [←hW0];clear hW0;refine Ao (pgS B w.heap.size 16 (.slice ad N cp) re) (.take 0 (.take 1 (.take 2 (.take 3 (.take 4 (.take 5 (.move 6 (.move 7 .done)))))))) (by kernel_rfl) (by kernel_rfl) ?_ ?_
  ·exact jY20
  intro w1 hs1 hk1
  repeat ((first|refine Ai rfl (by rfl) ?_|refine Af rfl (by rfl) ?_|(refine Ah (v:= ?_) rfl (by rfl) ?_ ?_;rotate_left;(· intro w' hSw;unfold pgS at hSw;go_simp;(try with_reducible rfl));rotate_right));try simp only [aps])
  refine Ak rfl (fun K hK=> ?_)
  go_simp
  go_at_call 40
  ((with_reducible refine(Htl.out w1).mono ?_);rintro e w2 ⟨rfl,hk2⟩;dsimp only)
  refine hK.out _ _ (by exact hs1.keep hk2 (by simp) (by simp)) ?_;clear hK K
  try simp only [aps]
  have hk02:=Hk0.out.nt (hk1.nt hk2);have hR:=Ad Hr0.out (hk1.nt hk2) (by simp);have hs3:=(hs1.keep hk2 (by simp) (by simp)).keep (Ca w2 (w.heap.size+1) #[.int .i64 12,.int .i64 0,.int .i64 0,.int .i64 0,.int .i64 0,.slice none 0 0,.int .i64 0,.int .i64 0,.slice none 0 0,.slice none 0 0,.int .i64 0,.int .i64 0,.int .i64 0,.int .i64 0,.int .i64 0,.slice none 0 0,.int .i64 0,.int .i64 0,.int .i64 0,.bool false]) nBR nCR;have hput:=setRow_heap w2 (w.heap.size+1) #[.int .i64 0,.int .i64 0,.int .i64 0,.int .i64 0,.int .i64 0,.slice none 0 0,.int .i64 0,.int .i64 0,.slice none 0 0,.slice none 0 0,.int .i64 0,.int .i64 0,.int .i64 0,.int .i64 0,.int .i64 0,.slice none 0 0,.int .i64 0,.int .i64 0,.int .i64 0,.bool false] #[.int .i64 12,.int .i64 0,.int .i64 0,.int .i64 0,.int .i64 0,.slice none 0 0,.int .i64 0,.int .i64 0,.slice none 0 0,.slice none 0 0,.int .i64 0,.int .i64 0,.int .i64 0,.int .i64 0,.int .i64 0,.slice none 0 0,.int .i64 0,.int .i64 0,.int .i64 0,.bool false] 44 _ hR;have hone:=Br 12 0 0;have hq:=(AcPost.ret (V:= #[.int .i64 12,.int .i64 0,.int .i64 0,.int .i64 0,.int .i64 0,.slice none 0 0,.int .i64 0,.int .i64 0,.slice none 0 0,.slice none 0 0,.int .i64 0,.int .i64 0,.int .i64 0,.int .i64 0,.int .i64 0,.slice none 0 0,.int .i64 0,.int .i64 0,.int .i64 0,.bool false]) H.out hk02 (AcPost.same (H.out.keep0 hk02) (Keeps.refl _ _)) hR (Nat.le_succ _)).2;have hans2:=(AnsIs.mk0 w w2 12 0 0).setRow (V:= #[.int .i64 12,.int .i64 0,.int .i64 0,.int .i64 0,.int .i64 0,.slice none 0 0,.int .i64 0,.int .i64 0,.slice none 0 0,.slice none 0 0,.int .i64 0,.int .i64 0,.int .i64 0,.int .i64 0,.int .i64 0,.slice none 0 0,.int .i64 0,.int .i64 0,.int .i64 0,.bool false]) hR;clear hs1 hk1 hk2;obtain⟨Hk02,HR,Hs3,Hput,Hone,Hq,Hans2⟩:=hid7 hk02 hR hs3 hput hone hq hans2;clear hans2 hq hone hput hs3 hR hk02;refine Ak rfl (fun K hK=> ?_);refine wp_store_row 44 (.tmp 4) (.tmp 29) rfl (w.heap.size+1) #[.int .i64 12,.int .i64 0,.int .i64 0,.int .i64 0,.int .i64 0,.slice none 0 0,.int .i64 0,.int .i64 0,.slice none 0 0,.slice none 0 0,.int .i64 0,.int .i64 0,.int .i64 0,.int .i64 0,.int .i64 0,.slice none 0 0,.int .i64 0,.int .i64 0,.int .i64 0,.bool false] rfl rfl 44 #[.int .i64 0,.int .i64 0,.int .i64 0,.int .i64 0,.int .i64 0,.slice none 0 0,.int .i64 0,.int .i64 0,.slice none 0 0,.slice none 0 0,.int .i64 0,.int .i64 0,.int .i64 0,.int .i64 0,.int .i64 0,.slice none 0 0,.int .i64 0,.int .i64 0,.int .i64 0,.bool false] HR.out Ar rfl Hone.out ?_;exact jY17
 ·obtain⟨k,hk⟩:∃k:Nat,re-1=(k:Int):=⟨(re-1).toNat,by omega⟩;obtain⟨y,hy⟩:=Av (L:=x.I) (k:=k) (by rw [hN];omega);have htl:=fun(W:World) (hW:Keeps (fun _=>False) w W)=>accTell_yes ad cp N (x.I) y k re W (hsr.keep hW) hsl hk hy;have hte:=tellE_yes (M:=a.iss) (r:=re) (by rw [←hlen];exact hr) hk (s:=y.s) (by rw [←h.is,List.getElem?_map,hy];rfl);obtain⟨⟨cy,fr,te,du,tot,cre,mi,gr,X⟩,hss⟩:∃s,y.s=s:=⟨_,rfl⟩;rw [hss] at htl hte;unfold TellPost at htl;simp only at htl;obtain⟨m,hm⟩:∃m,X.length=m:=⟨_,rfl⟩;rw [hm] at htl;clear hr;obtain⟨H,Hv,Hsr,Hsl,Hlen,HN,Hki,Hc0,Hr0⟩:=hid9 h hv hsr hsl hlen hN hki hc0 hr0;clear hr0 hc0 hki hN hlen hsl hsr hv h;obtain⟨Hk0,HS,Htl,Hte,Hk,Hy,Hss,Hm⟩:=hid8 hk0 hS htl hte hk hy hss hm;clear hm hss hy hk hte htl hS hk0
  go_enter Tryz.func15,Tryz.ntmps15
  go_upto_region 9 with fail
  rw [←hW0];clear hW0;refine Ao (pgS B w.heap.size 16 (.slice ad N cp) re) (.take 0 (.take 1 (.take 2 (.take 3 (.take 4 (.take 5 (.move 6 (.move 7 .done)))))))) (by kernel_rfl) (by kernel_rfl) ?_ ?_
  ·exact jY20
  intro w1 hs1 hk1
  repeat ((first|refine Ai rfl (by rfl) ?_|refine Af rfl (by rfl) ?_|(refine Ah (v:= ?_) rfl (by rfl) ?_ ?_;rotate_left;(· intro w' hSw;unfold pgS at hSw;go_simp;(try with_reducible rfl));rotate_right));try simp only [aps])
  refine Ak rfl (fun K hK=> ?_)
  go_simp
  go_at_call 40
  ((with_reducible refine(Htl.out w1 (Hk0.out.nt hk1)).mono ?_);rintro e w2 ⟨al,cl,rfl,hrow,hk2,hf2⟩;dsimp only)
  refine hK.out _ _ (by exact hs1.keep hk2 (by simp) (by simp)) ?_;clear hK K
  try simp only [aps]
  have hk02:=Hk0.out.nt (hk1.nt hk2);have hR:=Ad Hr0.out (hk1.nt hk2) (by simp);have hs3:=(hs1.keep hk2 (by simp) (by simp)).keep (Ca w2 (w.heap.size+1) #[.int .i64 0,.int .i64 0,.int .i64 0,.int .i64 0,.int .i64 0,.slice none 0 0,.int .i64 0,.int .i64 0,.slice none 0 0,.slice none 0 0,.int .i64 0,.int .i64 cy,.int .i64 fr,.int .i64 te,.int .i64 du,.slice al m cl,.int .i64 tot,.int .i64 cre,.int .i64 mi,.bool gr]) nBR nCR;have hput:=setRow_heap w2 (w.heap.size+1) #[.int .i64 0,.int .i64 0,.int .i64 0,.int .i64 0,.int .i64 0,.slice none 0 0,.int .i64 0,.int .i64 0,.slice none 0 0,.slice none 0 0,.int .i64 0,.int .i64 0,.int .i64 0,.int .i64 0,.int .i64 0,.slice none 0 0,.int .i64 0,.int .i64 0,.int .i64 0,.bool false] #[.int .i64 0,.int .i64 0,.int .i64 0,.int .i64 0,.int .i64 0,.slice none 0 0,.int .i64 0,.int .i64 0,.slice none 0 0,.slice none 0 0,.int .i64 0,.int .i64 cy,.int .i64 fr,.int .i64 te,.int .i64 du,.slice al m cl,.int .i64 tot,.int .i64 cre,.int .i64 mi,.bool gr] 44 _ hR;have hone:=one_ansP cy fr te du tot cre mi al m cl gr;have hq:=(AcPost.ret (V:= #[.int .i64 0,.int .i64 0,.int .i64 0,.int .i64 0,.int .i64 0,.slice none 0 0,.int .i64 0,.int .i64 0,.slice none 0 0,.slice none 0 0,.int .i64 0,.int .i64 cy,.int .i64 fr,.int .i64 te,.int .i64 du,.slice al m cl,.int .i64 tot,.int .i64 cre,.int .i64 mi,.bool gr]) H.out hk02 (AcPost.same (H.out.keep0 hk02) (Keeps.refl _ _)) hR (Nat.le_succ _)).2;have hans:AnsIs w w2 0 0 0 st00 ⟨cy,fr,te,du,tot,cre,mi,gr,X⟩ (.agg #[.int .i64 0,.int .i64 0,.int .i64 0,.int .i64 0,.int .i64 0,.slice none 0 0,.int .i64 0,.int .i64 0,.slice none 0 0,.slice none 0 0,.int .i64 0,.int .i64 cy,.int .i64 fr,.int .i64 te,.int .i64 du,.slice al m cl,.int .i64 tot,.int .i64 cre,.int .i64 mi,.bool gr]):=⟨none,0,none,0,none,0,al,cl,by rw [←Hm.out];rfl,World.ownsRow_nil _ _ _ _,World.ownsRow_nil _ _ _ _,World.ownsRow_nil _ _ _ _,by rw [←Hm.out] at hrow;exact hrow⟩;have hans2:=hans.setRow (V:= #[.int .i64 0,.int .i64 0,.int .i64 0,.int .i64 0,.int .i64 0,.slice none 0 0,.int .i64 0,.int .i64 0,.slice none 0 0,.slice none 0 0,.int .i64 0,.int .i64 cy,.int .i64 fr,.int .i64 te,.int .i64 du,.slice al m cl,.int .i64 tot,.int .i64 cre,.int .i64 mi,.bool gr]) hR;clear hs1 hk1 hk2 hrow hf2 hans;obtain⟨Hk02,HR,Hs3,Hput,Hone,Hq,Hans2⟩:=hid7 hk02 hR hs3 hput hone hq hans2;clear hans2 hq hone hput hs3 hR hk02;refine Ak rfl (fun K hK=> ?_);refine wp_store_row 44 (.tmp 4) (.tmp 29) rfl (w.heap.size+1) #[.int .i64 0,.int .i64 0,.int .i64 0,.int .i64 0,.int .i64 0,.slice none 0 0,.int .i64 0,.int .i64 0,.slice none 0 0,.slice none 0 0,.int .i64 0,.int .i64 cy,.int .i64 fr,.int .i64 te,.int .i64 du,.slice al m cl,.int .i64 tot,.int .i64 cre,.int .i64 mi,.bool gr] rfl rfl 44 #[.int .i64 0,.int .i64 0,.int .i64 0,.int .i64 0,.int .i64 0,.slice none 0 0,.int .i64 0,.int .i64 0,.slice none 0 0,.slice none 0 0,.int .i64 0,.int .i64 0,.int .i64 0,.int .i64 0,.int .i64 0,.slice none 0 0,.int .i64 0,.int .i64 0,.int .i64 0,.bool false] HR.out Ar rfl Hone.out ?_
  exact jY5
theorem accDo_restate(B:Nat)(x:AcV)(a:Ac)(c:Cmd)(w:World)(h:AcAt w B x a)(hk:c.kind=11):
  Calls Tryz.prog 15 #[(.pointer (some ⟨B,0,none⟩)),.agg #[.int .i64 c.kind,.int .i64 c.day,.int .i64 c.tranche,.int .i64 c.amount,.int .i64 c.ref]] w fun e w'=>∃v,e= .returned v∧AnsIs w w' (tellE a.s.out c.ref) 0 0 st00 (tellP a.s.out c.ref) v∧AcPost w B x a w':=by
 obtain⟨ki,da,tr,am,re⟩:=c;simp only at hk⊢;subst hk;obtain⟨ad,cp,hv,hsr,hsl⟩:=h.stmN;have hlen:(x.P).length=(a.s.out).length:=by rw [←h.ns,List.length_map]
 obtain⟨N,hN⟩:∃n,(x.P).length=n:=⟨_,rfl⟩;rw [hN] at hv hsr hsl hlen;obtain⟨ki,hki⟩:∃k:Int,11=k:=⟨_,rfl⟩;rw [hki];obtain⟨W0,hW0⟩:∃x,x=(w.alloc (.cells #[.int .i64 ki,.int .i64 da,.int .i64 tr,.int .i64 am,.int .i64 re] 47)).alloc (.cells #[.int .i64 0,.int .i64 0,.int .i64 0,.int .i64 0,.int .i64 0,.slice none 0 0,.int .i64 0,.int .i64 0,.slice none 0 0,.slice none 0 0,.int .i64 0,.int .i64 0,.int .i64 0,.int .i64 0,.int .i64 0,.slice none 0 0,.int .i64 0,.int .i64 0,.int .i64 0,.bool false] 44):=⟨_,rfl⟩;have hc0:W0.heap[w.heap.size]?=some (.cells #[.int .i64 ki,.int .i64 da,.int .i64 tr,.int .i64 am,.int .i64 re] 47 (0,0)):=by rw [hW0];exact Au (heap_alloc_new w _) _
 have hr0:W0.heap[w.heap.size+1]?=some (.cells #[.int .i64 0,.int .i64 0,.int .i64 0,.int .i64 0,.int .i64 0,.slice none 0 0,.int .i64 0,.int .i64 0,.slice none 0 0,.slice none 0 0,.int .i64 0,.int .i64 0,.int .i64 0,.int .i64 0,.int .i64 0,.slice none 0 0,.int .i64 0,.int .i64 0,.int .i64 0,.bool false] 44 (0,0)):=by rw [hW0];exact Ay _ _ (by simp)
 have hk0:Keeps (fun _=>False) w W0:=by rw [hW0];(repeat (first|exact Keeps.refl _ _|exact Keeps.alloc _ _|exact Keeps.drew _|exact Keeps.drewN _ _|refine Keeps.Ap ?_|refine Keeps.Al ?_|refine Keeps.Ae ?_))
 rw [←hki] at hW0 hc0⊢;have hbl:B<W0.heap.size:=by have:=lt_of_block h.blk;have:=hk0.size;omega
 have hS:pgS B w.heap.size 15 (.slice ad N cp) re W0:=⟨by rw [←hv];exact Aa (h.keep0 hk0).blk 15,Aa hc0 4⟩;have nBR:¬B=w.heap.size+1:=fun e=>by have:=lt_of_block h.blk;omega
 have nCR:¬w.heap.size=w.heap.size+1:=by omega
 by_cases hr:re<1∨(N:Int)<re
 ·have htl:=fun W=>accTell_no ad cp N re W hr;have hte:=tellE_no (M:=a.s.out) (r:=re) (by rw [←hlen];exact hr);clear hr;obtain⟨H,Hv,Hsr,Hsl,Hlen,HN,Hki,Hc0,Hr0⟩:=hid9 h hv hsr hsl hlen hN hki hc0 hr0;clear hr0 hc0 hki hN hlen hsl hsr hv h;obtain⟨Hk0,HS,Htl,Hte⟩:=hid4 hk0 hS htl hte;clear hte htl hS hk0
  go_enter Tryz.func15,Tryz.ntmps15
  go_upto_region 11 with fail
  rw [←hW0];clear hW0;refine Ao (pgS B w.heap.size 15 (.slice ad N cp) re) (.take 0 (.take 1 (.take 2 (.take 3 (.take 4 (.take 5 (.move 6 (.move 7 .done)))))))) (by kernel_rfl) (by kernel_rfl) ?_ ?_
  ·exact jY20
  intro w1 hs1 hk1
  repeat ((first|refine Ai rfl (by rfl) ?_|refine Af rfl (by rfl) ?_|(refine Ah (v:= ?_) rfl (by rfl) ?_ ?_;rotate_left;(· intro w' hSw;unfold pgS at hSw;go_simp;(try with_reducible rfl));rotate_right));try simp only [aps])
  refine Ak rfl (fun K hK=> ?_)
  go_simp
  go_at_call 40
  ((with_reducible refine(Htl.out w1).mono ?_);rintro e w2 ⟨rfl,hk2⟩;dsimp only)
  refine hK.out _ _ (by exact hs1.keep hk2 (by simp) (by simp)) ?_;clear hK K
  try simp only [aps]
  have hk02:=Hk0.out.nt (hk1.nt hk2);have hR:=Ad Hr0.out (hk1.nt hk2) (by simp);have hs3:=(hs1.keep hk2 (by simp) (by simp)).keep (Ca w2 (w.heap.size+1) #[.int .i64 12,.int .i64 0,.int .i64 0,.int .i64 0,.int .i64 0,.slice none 0 0,.int .i64 0,.int .i64 0,.slice none 0 0,.slice none 0 0,.int .i64 0,.int .i64 0,.int .i64 0,.int .i64 0,.int .i64 0,.slice none 0 0,.int .i64 0,.int .i64 0,.int .i64 0,.bool false]) nBR nCR;have hput:=setRow_heap w2 (w.heap.size+1) #[.int .i64 0,.int .i64 0,.int .i64 0,.int .i64 0,.int .i64 0,.slice none 0 0,.int .i64 0,.int .i64 0,.slice none 0 0,.slice none 0 0,.int .i64 0,.int .i64 0,.int .i64 0,.int .i64 0,.int .i64 0,.slice none 0 0,.int .i64 0,.int .i64 0,.int .i64 0,.bool false] #[.int .i64 12,.int .i64 0,.int .i64 0,.int .i64 0,.int .i64 0,.slice none 0 0,.int .i64 0,.int .i64 0,.slice none 0 0,.slice none 0 0,.int .i64 0,.int .i64 0,.int .i64 0,.int .i64 0,.int .i64 0,.slice none 0 0,.int .i64 0,.int .i64 0,.int .i64 0,.bool false] 44 _ hR;have hone:=Br 12 0 0;have hq:=(AcPost.ret (V:= #[.int .i64 12,.int .i64 0,.int .i64 0,.int .i64 0,.int .i64 0,.slice none 0 0,.int .i64 0,.int .i64 0,.slice none 0 0,.slice none 0 0,.int .i64 0,.int .i64 0,.int .i64 0,.int .i64 0,.int .i64 0,.slice none 0 0,.int .i64 0,.int .i64 0,.int .i64 0,.bool false]) H.out hk02 (AcPost.same (H.out.keep0 hk02) (Keeps.refl _ _)) hR (Nat.le_succ _)).2;have hans2:=(AnsIs.mk0 w w2 12 0 0).setRow (V:= #[.int .i64 12,.int .i64 0,.int .i64 0,.int .i64 0,.int .i64 0,.slice none 0 0,.int .i64 0,.int .i64 0,.slice none 0 0,.slice none 0 0,.int .i64 0,.int .i64 0,.int .i64 0,.int .i64 0,.int .i64 0,.slice none 0 0,.int .i64 0,.int .i64 0,.int .i64 0,.bool false]) hR;clear hs1 hk1 hk2;obtain⟨Hk02,HR,Hs3,Hput,Hone,Hq,Hans2⟩:=hid7 hk02 hR hs3 hput hone hq hans2;clear hans2 hq hone hput hs3 hR hk02;refine Ak rfl (fun K hK=> ?_);refine wp_store_row 44 (.tmp 4) (.tmp 38) rfl (w.heap.size+1) #[.int .i64 12,.int .i64 0,.int .i64 0,.int .i64 0,.int .i64 0,.slice none 0 0,.int .i64 0,.int .i64 0,.slice none 0 0,.slice none 0 0,.int .i64 0,.int .i64 0,.int .i64 0,.int .i64 0,.int .i64 0,.slice none 0 0,.int .i64 0,.int .i64 0,.int .i64 0,.bool false] rfl rfl 44 #[.int .i64 0,.int .i64 0,.int .i64 0,.int .i64 0,.int .i64 0,.slice none 0 0,.int .i64 0,.int .i64 0,.slice none 0 0,.slice none 0 0,.int .i64 0,.int .i64 0,.int .i64 0,.int .i64 0,.int .i64 0,.slice none 0 0,.int .i64 0,.int .i64 0,.int .i64 0,.bool false] HR.out Ar rfl Hone.out ?_;exact jY17
 ·obtain⟨k,hk⟩:∃k:Nat,re-1=(k:Int):=⟨(re-1).toNat,by omega⟩;obtain⟨y,hy⟩:=Av (L:=x.P) (k:=k) (by rw [hN];omega);have htl:=fun(W:World) (hW:Keeps (fun _=>False) w W)=>accTell_yes ad cp N (x.P) y k re W (hsr.keep hW) hsl hk hy;have hte:=tellE_yes (M:=a.s.out) (r:=re) (by rw [←hlen];exact hr) hk (s:=y.s) (by rw [←h.ns,List.getElem?_map,hy];rfl);obtain⟨⟨cy,fr,te,du,tot,cre,mi,gr,X⟩,hss⟩:∃s,y.s=s:=⟨_,rfl⟩;rw [hss] at htl hte;unfold TellPost at htl;simp only at htl;obtain⟨m,hm⟩:∃m,X.length=m:=⟨_,rfl⟩;rw [hm] at htl;clear hr;obtain⟨H,Hv,Hsr,Hsl,Hlen,HN,Hki,Hc0,Hr0⟩:=hid9 h hv hsr hsl hlen hN hki hc0 hr0;clear hr0 hc0 hki hN hlen hsl hsr hv h;obtain⟨Hk0,HS,Htl,Hte,Hk,Hy,Hss,Hm⟩:=hid8 hk0 hS htl hte hk hy hss hm;clear hm hss hy hk hte htl hS hk0
  go_enter Tryz.func15,Tryz.ntmps15
  go_upto_region 11 with fail
  rw [←hW0];clear hW0;refine Ao (pgS B w.heap.size 15 (.slice ad N cp) re) (.take 0 (.take 1 (.take 2 (.take 3 (.take 4 (.take 5 (.move 6 (.move 7 .done)))))))) (by kernel_rfl) (by kernel_rfl) ?_ ?_
  ·exact jY20
  intro w1 hs1 hk1
  repeat ((first|refine Ai rfl (by rfl) ?_|refine Af rfl (by rfl) ?_|(refine Ah (v:= ?_) rfl (by rfl) ?_ ?_;rotate_left;(· intro w' hSw;unfold pgS at hSw;go_simp;(try with_reducible rfl));rotate_right));try simp only [aps])
  refine Ak rfl (fun K hK=> ?_)
  go_simp
  go_at_call 40
  ((with_reducible refine(Htl.out w1 (Hk0.out.nt hk1)).mono ?_);rintro e w2 ⟨al,cl,rfl,hrow,hk2,hf2⟩;dsimp only)
  refine hK.out _ _ (by exact hs1.keep hk2 (by simp) (by simp)) ?_;clear hK K
  try simp only [aps]
  have hk02:=Hk0.out.nt (hk1.nt hk2);have hR:=Ad Hr0.out (hk1.nt hk2) (by simp);have hs3:=(hs1.keep hk2 (by simp) (by simp)).keep (Ca w2 (w.heap.size+1) #[.int .i64 0,.int .i64 0,.int .i64 0,.int .i64 0,.int .i64 0,.slice none 0 0,.int .i64 0,.int .i64 0,.slice none 0 0,.slice none 0 0,.int .i64 0,.int .i64 cy,.int .i64 fr,.int .i64 te,.int .i64 du,.slice al m cl,.int .i64 tot,.int .i64 cre,.int .i64 mi,.bool gr]) nBR nCR;have hput:=setRow_heap w2 (w.heap.size+1) #[.int .i64 0,.int .i64 0,.int .i64 0,.int .i64 0,.int .i64 0,.slice none 0 0,.int .i64 0,.int .i64 0,.slice none 0 0,.slice none 0 0,.int .i64 0,.int .i64 0,.int .i64 0,.int .i64 0,.int .i64 0,.slice none 0 0,.int .i64 0,.int .i64 0,.int .i64 0,.bool false] #[.int .i64 0,.int .i64 0,.int .i64 0,.int .i64 0,.int .i64 0,.slice none 0 0,.int .i64 0,.int .i64 0,.slice none 0 0,.slice none 0 0,.int .i64 0,.int .i64 cy,.int .i64 fr,.int .i64 te,.int .i64 du,.slice al m cl,.int .i64 tot,.int .i64 cre,.int .i64 mi,.bool gr] 44 _ hR;have hone:=one_ansP cy fr te du tot cre mi al m cl gr;have hq:=(AcPost.ret (V:= #[.int .i64 0,.int .i64 0,.int .i64 0,.int .i64 0,.int .i64 0,.slice none 0 0,.int .i64 0,.int .i64 0,.slice none 0 0,.slice none 0 0,.int .i64 0,.int .i64 cy,.int .i64 fr,.int .i64 te,.int .i64 du,.slice al m cl,.int .i64 tot,.int .i64 cre,.int .i64 mi,.bool gr]) H.out hk02 (AcPost.same (H.out.keep0 hk02) (Keeps.refl _ _)) hR (Nat.le_succ _)).2;have hans:AnsIs w w2 0 0 0 st00 ⟨cy,fr,te,du,tot,cre,mi,gr,X⟩ (.agg #[.int .i64 0,.int .i64 0,.int .i64 0,.int .i64 0,.int .i64 0,.slice none 0 0,.int .i64 0,.int .i64 0,.slice none 0 0,.slice none 0 0,.int .i64 0,.int .i64 cy,.int .i64 fr,.int .i64 te,.int .i64 du,.slice al m cl,.int .i64 tot,.int .i64 cre,.int .i64 mi,.bool gr]):=⟨none,0,none,0,none,0,al,cl,by rw [←Hm.out];rfl,World.ownsRow_nil _ _ _ _,World.ownsRow_nil _ _ _ _,World.ownsRow_nil _ _ _ _,by rw [←Hm.out] at hrow;exact hrow⟩;have hans2:=hans.setRow (V:= #[.int .i64 0,.int .i64 0,.int .i64 0,.int .i64 0,.int .i64 0,.slice none 0 0,.int .i64 0,.int .i64 0,.slice none 0 0,.slice none 0 0,.int .i64 0,.int .i64 cy,.int .i64 fr,.int .i64 te,.int .i64 du,.slice al m cl,.int .i64 tot,.int .i64 cre,.int .i64 mi,.bool gr]) hR;clear hs1 hk1 hk2 hrow hf2 hans;obtain⟨Hk02,HR,Hs3,Hput,Hone,Hq,Hans2⟩:=hid7 hk02 hR hs3 hput hone hq hans2;clear hans2 hq hone hput hs3 hR hk02;refine Ak rfl (fun K hK=> ?_);refine wp_store_row 44 (.tmp 4) (.tmp 38) rfl (w.heap.size+1) #[.int .i64 0,.int .i64 0,.int .i64 0,.int .i64 0,.int .i64 0,.slice none 0 0,.int .i64 0,.int .i64 0,.slice none 0 0,.slice none 0 0,.int .i64 0,.int .i64 cy,.int .i64 fr,.int .i64 te,.int .i64 du,.slice al m cl,.int .i64 tot,.int .i64 cre,.int .i64 mi,.bool gr] rfl rfl 44 #[.int .i64 0,.int .i64 0,.int .i64 0,.int .i64 0,.int .i64 0,.slice none 0 0,.int .i64 0,.int .i64 0,.slice none 0 0,.slice none 0 0,.int .i64 0,.int .i64 0,.int .i64 0,.int .i64 0,.int .i64 0,.slice none 0 0,.int .i64 0,.int .i64 0,.int .i64 0,.bool false] HR.out Ar rfl Hone.out ?_
  exact jY5
theorem haltW{p:Prop}(h:Hid p):p:=h.out
set_option maxHeartbeats 400000
theorem plainLine1_same(a0:Int)(a1:Int)(a2:Int)(w:World):Calls Tryz.prog 70 #[.agg #[.int .i64 a0,.int .i64 a1,.int .i64 a2],.agg #[.int .i64 a0,.int .i64 a1,.int .i64 a2]] w
  fun e w'=>e= .returned (.bool true)∧Keeps (fun _=>False) w w':=by
 go_enter Tryz.func70,Tryz.ntmps70
 exact jY10
theorem sameLine_same(L:List Ln)(v1 v2:Value)(w:World)(h1:Reads w 3 v1 L.length (L.flatMap Ln.cells))(h2:Reads w 3 v2 L.length (L.flatMap Ln.cells))(hl:L.length≤1000000000000):
  Calls Tryz.prog 69 #[v1,v2,.func (.func 70) #[] #[]] w fun e w'=>e= .returned (.bool true)∧Keeps (fun _=>False) w w':=by
 have g1:=h1;have g2:=h2;obtain⟨ad1,c1,rfl,_,_⟩:=g1;obtain⟨ad2,c2,rfl,_,_⟩:=g2;obtain⟨H1,H2⟩:=hid2 h1 h2;clear h2 h1
 go_enter Tryz.func69,Tryz.ntmps69
 go_wp2
 go_loopw [7] (fun i wr=>∃k:Nat,k≤L.length∧i= .int .i64 k∧Keeps (fun _=>False) w wr) (fun i _=>L.length-(intOf i).toNat)
 case atStart=>exact⟨0,Nat.zero_le _,rfl,Keeps.refl _ _⟩
 case round=>
  obtain⟨k,hk,rfl,hkp⟩:=hrel;have Hkp:=Lib.hid hkp;clear hkp;by_cases hlt:k<L.length
  ·obtain⟨x,hx⟩:∃x,L[k]?=some x:=⟨L[k],List.getElem?_eq_getElem hlt⟩;obtain⟨g,o,c,he,hc⟩:=(H1.out.keeps Hkp.out (by simp)).elem Ln.Am hx (by decide);obtain⟨g',o',c',he',hc'⟩:=(H2.out.keeps Hkp.out (by simp)).elem Ln.Am hx (by decide);simp only [Value.slice.injEq,true_and] at he he';obtain⟨rfl,rfl⟩:=he;obtain⟨rfl,rfl⟩:=he';obtain⟨e0,e1,e2⟩:=x;have x0:wr.cell? ⟨g,o+k*3,none⟩=some (.int .i64 e0):=hc 0 (by decide);have x1:wr.cell? ⟨g,o+k*3+1,none⟩=some (.int .i64 e1):=hc 1 (by decide);have x2:wr.cell? ⟨g,o+k*3+2,none⟩=some (.int .i64 e2):=hc 2 (by decide);have y0:wr.cell? ⟨g',o'+k*3,none⟩=some (.int .i64 e0):=hc' 0 (by decide);have y1:wr.cell? ⟨g',o'+k*3+1,none⟩=some (.int .i64 e1):=hc' 1 (by decide);have y2:wr.cell? ⟨g',o'+k*3+2,none⟩=some (.int .i64 e2):=hc' 2 (by decide);clear hc hc';have Hx:=Lib.hid hx;clear hx
   go_wp2
   go_still_tail 9,(by kernel_rfl)
   go_wp2_with (go_at_call 70;refine(plainLine1_same _ _ _ _).mono ?_;rintro e w' ⟨rfl,hk2⟩;have Hk2:=Lib.hid hk2;clear hk2)
   exact jY6
  ·exact jY19
theorem plainLine_same(L:List Ln)(v1 v2:Value)(w:World)(h1:Reads w 3 v1 L.length (L.flatMap Ln.cells))(h2:Reads w 3 v2 L.length (L.flatMap Ln.cells))(hl:L.length≤1000000000000):
  Calls Tryz.prog 47 #[v1,v2] w fun e w'=>e= .returned (.bool true)∧Keeps (fun _=>False) w w':=by
 obtain⟨H1,H2⟩:=hid2 h1 h2;clear h2 h1
 go_enter Tryz.func47,Tryz.ntmps47
 go_wp2_with (go_at_call 69;refine(sameLine_same L _ _ _ H1.out H2.out hl).mono ?_;rintro e w' ⟨rfl,hk2⟩;have Hk2:=Lib.hid hk2;clear hk2)
 go_ret;exact⟨rfl,Hk2.out⟩
theorem plainI641_same(a:Int)(w:World):Calls Tryz.prog 72 #[.int .i64 a,.int .i64 a] w
  fun e w'=>e= .returned (.bool true)∧w=w':=by
 go_enter Tryz.func72,Tryz.ntmps72
 go_wp2
 go_ret;exact⟨rfl,rfl⟩
theorem sameI64_same(L:List Int)(v1 v2:Value)(w:World)(h1:Reads w 1 v1 L.length (L.flatMap i64c))(h2:Reads w 1 v2 L.length (L.flatMap i64c))(hl:L.length≤1000000000000):
  Calls Tryz.prog 71 #[v1,v2,.func (.func 72) #[] #[]] w fun e w'=>e= .returned (.bool true)∧Keeps (fun _=>False) w w':=by
 have g1:=h1;have g2:=h2;obtain⟨ad1,c1,rfl,_,_⟩:=g1;obtain⟨ad2,c2,rfl,_,_⟩:=g2;obtain⟨H1,H2⟩:=hid2 h1 h2;clear h2 h1
 go_enter Tryz.func71,Tryz.ntmps71
 go_wp2
 go_loopw [7] (fun i wr=>∃k:Nat,k≤L.length∧i= .int .i64 k∧Keeps (fun _=>False) w wr) (fun i _=>L.length-(intOf i).toNat)
 case atStart=>exact⟨0,Nat.zero_le _,rfl,Keeps.refl _ _⟩
 case round=>
  obtain⟨k,hk,rfl,hkp⟩:=hrel;have Hkp:=Lib.hid hkp;clear hkp;by_cases hlt:k<L.length
  ·obtain⟨x,hx⟩:∃x,L[k]?=some x:=⟨L[k],List.getElem?_eq_getElem hlt⟩;obtain⟨g,o,c,he,hc⟩:=(H1.out.keeps Hkp.out (by simp)).elem Cc hx (by decide);obtain⟨g',o',c',he',hc'⟩:=(H2.out.keeps Hkp.out (by simp)).elem Cc hx (by decide);simp only [Value.slice.injEq,true_and] at he he';obtain⟨rfl,rfl⟩:=he;obtain⟨rfl,rfl⟩:=he';have x0:wr.cell? ⟨g,o+k,none⟩=some (.int .i64 x):=by have:=hc 0 (by decide);simpa [i64c] using this
   have y0:wr.cell? ⟨g',o'+k,none⟩=some (.int .i64 x):=by have:=hc' 0 (by decide);simpa [i64c] using this
   clear hc hc';have Hx:=Lib.hid hx;clear hx
   go_wp2
   go_still_tail 9,(by kernel_rfl)
   go_wp2_with (go_at_call 72;refine(plainI641_same _ _).mono ?_;rintro e w' ⟨rfl,rfl⟩)
   go_roundw
   case rel=>exact⟨k+1,by omega,by go_num,(Hkp.out.trans (Keeps.drew _))⟩
   case measure=>simp [intOf];omega
  ·exact jY19
theorem plainI64_same(L:List Int)(v1 v2:Value)(w:World)(h1:Reads w 1 v1 L.length (L.flatMap i64c))(h2:Reads w 1 v2 L.length (L.flatMap i64c))(hl:L.length≤1000000000000):
  Calls Tryz.prog 48 #[v1,v2] w fun e w'=>e= .returned (.bool true)∧Keeps (fun _=>False) w w':=by
 obtain⟨H1,H2⟩:=hid2 h1 h2;clear h2 h1
 go_enter Tryz.func48,Tryz.ntmps48
 go_wp2_with (go_at_call 71;refine(sameI64_same L _ _ _ H1.out H2.out hl).mono ?_;rintro e w' ⟨rfl,hk2⟩;have Hk2:=Lib.hid hk2;clear hk2)
 go_ret;exact⟨rfl,Hk2.out⟩
set_option maxHeartbeats 1600000
theorem sameStm_any(s:Stm)(v1 v2:Value)(w:World)(h1:Reads w 3 v1 s.lines.length (s.lines.flatMap Ln.cells))(h2:Reads w 3 v2 s.lines.length (s.lines.flatMap Ln.cells))(hl:s.lines.length≤1000000000000):
  Calls Tryz.prog 22 #[s.val v1,s.val v2] w fun e w'=>e= .returned (.bool true)∧Keeps (fun _=>False) w w':=by
 obtain⟨cy,fr,te,du,tot,cr,mi,gr,L⟩:=s;simp only [Stm.val] at *;have g1:=h1;have g2:=h2;obtain⟨ad1,c1,rfl,_,_⟩:=g1;obtain⟨ad2,c2,rfl,_,_⟩:=g2;obtain⟨H1,H2⟩:=hid2 h1 h2;clear h2 h1
 go_enter Tryz.func22,Tryz.ntmps22
 go_wp2_with (go_at_call 47;refine(plainLine_same L _ _ _ ((H1.out.alloc _).alloc _) ((H2.out.alloc _).alloc _) hl).mono ?_;rintro e w1 ⟨rfl,hk1⟩;have hb1:=Ad (Au (heap_alloc_new w _) _) hk1 (by simp);have hb2:=box_new hk1 (by simp);simp only [World.size_alloc] at hb2;have xa:=Aa hb1;have xb:=Aa hb2;have xl1:=lt_of_block hb1;have xl2:=lt_of_block hb2;have Hk1:=Lib.hid hk1;clear hk1 hb1 hb2)
 exact jY11
structure Pages19(w:World)(v:Value)(P:List SV):Prop where
 row:Reads w 9 v P.length (P.flatMap SV.cells)
 ln:∀x∈P,Reads w 3 x.v x.s.lines.length (x.s.lines.flatMap Ln.cells)
 len:∀x∈P,x.s.lines.length≤1000
 few:P.length≤1000000
theorem Pages19.keeps{w w':World}{v:Value}{P:List SV}(h:Pages19 w v P)(hk:Keeps (fun _=>False) w w'):Pages19 w' v P:=⟨h.row.keeps hk (by simp),fun x hx=>(h.ln x hx).keeps hk (by simp),h.len,h.few⟩
theorem sameStmL_any(P Q:List SV)(v1 v2:Value)(w:World)(h1:Pages19 w v1 P)(h2:Pages19 w v2 Q)(he:P.map SV.s=Q.map SV.s):
  Calls Tryz.prog 20 #[v1,v2,.func (.func 22) #[] #[]] w fun e w'=>e= .returned (.bool true)∧Keeps (fun _=>False) w w':=by
 obtain⟨n,hn⟩:∃n,P.length=n:=⟨_,rfl⟩;have hm:Q.length=n:=by rw [←hn];have:=congrArg List.length he;simp at this;omega
 have hf:=h1.few;have g1:=h1.row;have g2:=h2.row;rw [hn] at g1;rw [hm] at g2;have r1:=g1;have r2:=g2;obtain⟨ad1,c1,rfl,_,_⟩:=g1;obtain⟨ad2,c2,rfl,_,_⟩:=g2;have hone:∀(x:SV) (u1 u2:Value) (W:World),Reads W 3 u1 x.s.lines.length (x.s.lines.flatMap Ln.cells)→Reads W 3 u2 x.s.lines.length (x.s.lines.flatMap Ln.cells)→x.s.lines.length≤1000→Calls Tryz.prog 22 #[x.s.val u1,x.s.val u2] W fun e w'=>e= .returned (.bool true)∧Keeps (fun _=>False) W w':=fun x u1 u2 W a b c=>sameStm_any x.s u1 u2 W a b (by omega);rw [hn] at hf;obtain⟨H1,H2,Hn,Hm,He,R1,R2,Hone⟩:=hid8 h1 h2 hn hm he r1 r2 hone;clear hone r2 r1 he hm hn h2 h1
 go_enter Tryz.func20,Tryz.ntmps20
 go_wp2
 go_loopw [7] (fun i wr=>∃k:Nat,k≤n∧i= .int .i64 k∧Keeps (fun _=>False) w wr) (fun i _=>n-(intOf i).toNat)
 case atStart=>exact⟨0,Nat.zero_le _,rfl,Keeps.refl _ _⟩
 case round=>
  obtain⟨k,hk,rfl,hkp⟩:=hrel;have Hkp:=Lib.hid hkp;clear hkp;by_cases hlt:k<n
  ·obtain⟨x,hx⟩:=Av (L:=P) (k:=k) (by rw [Hn.out];exact hlt);obtain⟨y,hy⟩:=Av (L:=Q) (k:=k) (by rw [Hm.out];exact hlt);have hxy:x.s=y.s:=by
    have e1:(P.map SV.s)[k]?=some x.s:=by rw [List.getElem?_map,hx];rfl
    have e2:(Q.map SV.s)[k]?=some y.s:=by rw [List.getElem?_map,hy];rfl
    rw [He.out,e2] at e1;exact(Option.some.inj e1).symm
   have hxm:=List.mem_of_getElem? hx;have hym:=List.mem_of_getElem? hy;have hcall:=fun W (hW:Keeps (fun _=>False) w W)=>Hone.out x x.v y.v W ((H1.out.ln x hxm).keeps hW (by simp)) (by rw [hxy];exact(H2.out.ln y hym).keeps hW (by simp)) (H1.out.len x hxm);obtain⟨g,o,c,he,hc⟩:=(R1.out.keeps Hkp.out (by simp)).elem SV.Am hx (by decide);obtain⟨g',o',c',he',hc'⟩:=(R2.out.keeps Hkp.out (by simp)).elem SV.Am hy (by decide);simp only [Value.slice.injEq,true_and] at he he';obtain⟨rfl,rfl⟩:=he;obtain⟨rfl,rfl⟩:=he';obtain⟨⟨cy,fr,te,du,tot,cr,mi,gr,lb⟩,ax,cx⟩:=x;obtain⟨⟨cy2,fr2,te2,du2,tot2,cr2,mi2,gr2,lb2⟩,ay,cyy⟩:=y;simp only [Stm.mk.injEq] at hxy;obtain⟨rfl,rfl,rfl,rfl,rfl,rfl,rfl,rfl,rfl⟩:=hxy;obtain⟨l,hl⟩:∃l,lb.length=l:=⟨_,rfl⟩;simp only [SV.v,Stm.val] at hcall;rw [hl] at hcall;have x0:wr.cell? ⟨g,o+k*9,none⟩=some (.int .i64 cy):=hc 0 (by decide);have x1:wr.cell? ⟨g,o+k*9+1,none⟩=some (.int .i64 fr):=hc 1 (by decide);have x2:wr.cell? ⟨g,o+k*9+2,none⟩=some (.int .i64 te):=hc 2 (by decide);have x3:wr.cell? ⟨g,o+k*9+3,none⟩=some (.int .i64 du):=hc 3 (by decide);have x4:wr.cell? ⟨g,o+k*9+4,none⟩=some (.slice ax l cx):=by have:=hc 4 (by decide);rw [←hl];exact this
   have x5:wr.cell? ⟨g,o+k*9+5,none⟩=some (.int .i64 tot):=hc 5 (by decide);have x6:wr.cell? ⟨g,o+k*9+6,none⟩=some (.int .i64 cr):=hc 6 (by decide);have x7:wr.cell? ⟨g,o+k*9+7,none⟩=some (.int .i64 mi):=hc 7 (by decide);have x8:wr.cell? ⟨g,o+k*9+8,none⟩=some (.bool gr):=hc 8 (by decide);have y0:wr.cell? ⟨g',o'+k*9,none⟩=some (.int .i64 cy):=hc' 0 (by decide);have y1:wr.cell? ⟨g',o'+k*9+1,none⟩=some (.int .i64 fr):=hc' 1 (by decide);have y2:wr.cell? ⟨g',o'+k*9+2,none⟩=some (.int .i64 te):=hc' 2 (by decide);have y3:wr.cell? ⟨g',o'+k*9+3,none⟩=some (.int .i64 du):=hc' 3 (by decide);have y4:wr.cell? ⟨g',o'+k*9+4,none⟩=some (.slice ay l cyy):=by have:=hc' 4 (by decide);rw [←hl];exact this
   have y5:wr.cell? ⟨g',o'+k*9+5,none⟩=some (.int .i64 tot):=hc' 5 (by decide);have y6:wr.cell? ⟨g',o'+k*9+6,none⟩=some (.int .i64 cr):=hc' 6 (by decide);have y7:wr.cell? ⟨g',o'+k*9+7,none⟩=some (.int .i64 mi):=hc' 7 (by decide);have y8:wr.cell? ⟨g',o'+k*9+8,none⟩=some (.bool gr):=hc' 8 (by decide);clear hc hc';obtain⟨Hx,Hy,Hxm,Hym,Hcall,Hl⟩:=hid6 hx hy hxm hym hcall hl;clear hl hcall hym hxm hy hx
   go_wp2
   go_still_tail 9,(by kernel_rfl)
   go_wp2_with (go_at_call 22;(with_reducible refine(Hcall.out _ (Hkp.out.trans (Keeps.drew _))).mono ?_);rintro e w' ⟨rfl,hk2⟩;have Hk2:=Lib.hid hk2;clear hk2)
   exact jY6
  ·exact jY19
theorem samePos_any(L:List Int)(n:Nat)(ad1 ad2:Option Addr)(c1 c2:Nat)(cr du:Int)(w:World)(hn:L.length=n)(h1:Reads w 1 (.slice ad1 n c1) n (L.flatMap i64c))(h2:Reads w 1 (.slice ad2 n c2) n (L.flatMap i64c))(hl:n≤1000000000000):
  Calls Tryz.prog 23 #[.agg #[.slice ad1 n c1,.int .i64 cr,.int .i64 du],.agg #[.slice ad2 n c2,.int .i64 cr,.int .i64 du]] w fun e w'=>e= .returned (.bool true)∧Keeps (fun _=>False) w w':=by
 have hc:=fun W (hW:Keeps (fun _=>False) w W)=>plainI64_same L (.slice ad1 n c1) (.slice ad2 n c2) W (by rw [hn];exact h1.keeps hW (by simp)) (by rw [hn];exact h2.keeps hW (by simp)) (by omega);obtain⟨H1,H2,Hc,Hn⟩:=hid4 h1 h2 hc hn;clear hn hc h2 h1
 go_enter Tryz.func23,Tryz.ntmps23
 go_wp2_with (go_at_call 48;(with_reducible refine(Hc.out _ ((Keeps.alloc _ _).Ae)).mono ?_);rintro e w1 ⟨rfl,hk1⟩;have hb1:=Ad (Au (heap_alloc_new w _) _) hk1 (by simp);have hb2:=box_new hk1 (by simp);simp only [World.size_alloc] at hb2;have xa:=Aa hb1;have xb:=Aa hb2;have xl1:=lt_of_block hb1;have xl2:=lt_of_block hb2;have Hk1:=Lib.hid hk1;clear hk1 hb1 hb2)
 exact jY11
theorem Pages19.of{w0 w':World}{n:Nat}{s:St}{vb vr vo:Value}{P:List SV}(h:WalkRes w0 n s vb vr vo P w')(h1:∀x∈s.out,x.lines.length≤8)(h2:s.out.length≤300):Pages19 w' vo P where
 row:=Reads.Bh h.out
 ln:=fun x hx=>Reads.Bh (h.ln x hx)
 len:=fun x hx=>by
  have:=h1 x.s (by rw [←h.lp];exact List.mem_map_of_mem hx);omega
 few:=by
  have:=congrArg List.length h.lp;rw [List.length_map] at this;omega
theorem Live.less{w0 W:World}{O O':Nat→Prop}{B:Nat}{a:Ac}(h:Live w0 O W B a)(hO:∀i,O' i→O i):Live w0 O' W B a:=by
 obtain⟨x,h1,h2⟩:=h.is;exact⟨⟨x,h1,fun b hb=>⟨(h2 b hb).1,fun e=>(h2 b hb).2 (hO b e)⟩⟩,fun b hb=>h.ol b (hO b hb),h.kp⟩
def acT9(B:Nat)(t:Tm)(vt:Value)(td:Int)(bl:Nat)(w:World):Prop:=tbS B t vt w∧w.cell? ⟨B,7,none⟩=some (.int .i64 td)∧w.cell? ⟨B,9,none⟩=some (.pointer (some ⟨bl,0,none⟩))
theorem acT9.of{w:World}{B:Nat}{x:AcV}{a:Ac}(h:AcAt w B x a):acT9 B a.t x.vt a.today x.bl w:=
 ⟨⟨Aa h.blk 0,Aa h.blk 1,Aa h.blk 2,Aa h.blk 3,Aa h.blk 4,Aa h.blk 5,Aa h.blk 6⟩,Aa h.blk 7,Aa h.blk 9⟩
def cy7S(B:Nat)(st cd td:Int)(w:World):Prop:=w.cell? ⟨B,6,none⟩=some (.int .i64 st)∧w.cell? ⟨B,2,none⟩=some (.int .i64 cd)∧w.cell? ⟨B,7,none⟩=some (.int .i64 td)
theorem te_arg{a:Ac}{d:Int}(h:d<1∨400<d):a.te d=1∧a.tc d=0∧a.tick d=a:=by
 have h1:a.te d=1:=by unfold Ac.te;rw [if_pos h]
 exact jY15
theorem te_day{a:Ac}{d:Int}(h:¬(d<1∨400<d))(h2:¬ofE a.t.start a.t.cyc (a.today+d)=0):a.te d=10∧a.tc d=0∧a.tick d=a:=by
 have h1:a.te d=10:=by unfold Ac.te;rw [if_neg h,if_pos h2]
 exact jY15
theorem te_run{a:Ac}{d:Int}(h:¬(d<1∨400<d))(h2:ofE a.t.start a.t.cyc (a.today+d)=0):a.te d=(a.tz d).2:=by
 unfold Ac.te;rw [if_neg h,if_neg (by omega)]
theorem te_bad{a:Ac}{d:Int}(h:¬(d<1∨400<d))(h2:ofE a.t.start a.t.cyc (a.today+d)=0)(h3:¬(a.tz d).2=0):a.te d=(a.tz d).2∧a.tc d=0∧a.tick d=a:=by
 have h1:=te_run h h2;exact⟨h1,by unfold Ac.tc;rw [h1,if_neg (fun e=>h3 e.1)],by unfold Ac.tick;rw [h1,if_neg h3]⟩
theorem te_ok{a:Ac}{d:Int}(h:¬(d<1∨400<d))(h2:ofE a.t.start a.t.cyc (a.today+d)=0)(h3:(a.tz d).2=0):a.te d=0∧a.tc d=(if a.s.out.length<(a.tz d).1.out.length then((a.tz d).1.out.length:Int) else 0)∧a.tick d={ a with today:=a.today+d,s:=(a.tz d).1,iss:=a.iss++(a.tz d).1.out.drop a.s.out.length,seq:=a.seq+1 }:=by
 have h1:a.te d=0:=(te_run h h2).trans h3;refine⟨h1, ?_,by unfold Ac.tick;rw [h1,if_pos rfl]⟩;unfold Ac.tc;rw [h1];by_cases h4:a.s.out.length<(a.tz d).1.out.length
 ·rw [if_pos ⟨rfl,h4⟩,if_pos h4]
 ·rw [if_neg (fun e=>h4 e.2),if_neg h4]
def t12S(B:Nat)(vi vn:Value)(w:World):Prop:=w.cell? ⟨B,16,none⟩=some vi∧w.cell? ⟨B,15,none⟩=some vn
theorem t12S.of{w W:World}{B:Nat}{x:AcV}{a:Ac}(h:AcAt w B x a)(hk:Keeps (fun _=>False) w W):t12S B x.vi x.vn W:=by
 have hA:=h.keep0 hk;exact⟨Aa hA.blk 16,Aa hA.blk 15⟩
theorem drop_stms{w:World}{ao:Option Addr}{n2 co n1:Nat}{P:List SV}(h:StmsR w ao n2 co P)(hn:n1≤n2):StmsR w (if co=n1 then ao else Option.map (fun x=>x.add (n1*9)) ao) (n2-n1) (co-n1) (P.drop n1):=by
 obtain⟨⟨ad,c,he,hnc,hl,hnone,hcells⟩,h2,h3,h4⟩:=h;simp only [Value.slice.injEq,true_and] at he;obtain⟨rfl,rfl⟩:=he;refine⟨⟨_,_,rfl,by omega, ?_,fun hz=> ?_,fun j u hj=> ?_⟩,fun x hx=>h2 x (List.mem_of_mem_drop hx),fun x hx=>h3 x (List.mem_of_mem_drop hx),by rw [List.length_drop,h4]⟩
 ·rw [Dl SV.Am,List.length_drop,h4]
 ·by_cases hc:co=n1
  ·omega
  ·rw [if_neg hc] at hz;rw [Option.map_eq_none_iff] at hz;have:=hnone hz;omega
 ·rw [←flat_dropk SV.Am,List.getElem?_drop] at hj;obtain⟨g,o,rfl,hh⟩:=hcells _ _ hj;by_cases hc:co=n1
  ·have h5:n2=n1:=by omega
   have h6:=(List.getElem?_eq_some_iff.1 hj).1;rw [hl] at h6;exact absurd h6 (by rw [h5];omega)
  ·rw [if_neg hc];exact⟨g,o+n1*9,by rw [Option.map_some,add_mk],by rw [Nat.add_assoc];exact hh⟩
theorem t12S.keepS{B:Nat}{vi vn:Value}{w w':World}{S:Nat→Prop}(h:t12S B vi vn w)(hk:Keeps S w w')(hS:¬S B):t12S B vi vn w':=⟨(hk.cell (Ag h.1) hS).trans h.1,(hk.cell (Ag h.2) hS).trans h.2⟩
def TkS(B:Nat)(x:AcV)(w W2:World)(i:Nat):Prop:=(i=B∨x.vi.ownBlock=some i)∨(w.heap.size≤i∧i<W2.heap.size)
theorem AcAt.ticked{w wc Wf W2:World}{B n M:Nat}{x:AcV}{a:Ac}{d:Int}{Z:St×Int}{vp vr vn vi:Value}{P Q:List SV}(h:AcAt w B x a)(hkc:Keeps (fun _=>False) w wc)(hk2:Keeps (fun _=>False) w W2)(hk2c:Keeps (fun _=>False) W2 wc)
  (hK:Keeps (TkS B x w W2) wc Wf) (_:a.t.trs.length=n) (hZ:walkR a.t a.L (a.today+d)=Z) (hz:Z.2=0) (g:WalkRes W2 n Z.1 vp vr vn P wc) (hmo:a.s.out.length≤Z.1.out.length) (hq:Q.map SV.s=Z.1.out.drop a.s.out.length)
  (hql:∀y∈Q,wc.ownsRow 0 102 3 y.v y.s.lines.length (y.s.lines.flatMap Ln.cells)) (hqf:∀y∈Q,∀b,y.v.ownBlock=some b→W2.heap.size≤b)
  (hb:Wf.heap[B]?=some (.cells #[.int .i64 a.t.limit,x.vt,.int .i64 a.t.cyc,.int .i64 a.t.due,.int .i64 a.t.minFixed,.int .i64 a.t.minPart,.int .i64 a.t.start,.int .i64 (a.today+d),.int .i64 (a.seq+1),(.pointer (some ⟨x.bl,0,none⟩)),(.pointer (some ⟨x.bb,0,none⟩)),vp,.int .i64 Z.1.p.cr,.int .i64 Z.1.p.du,vr,vn,vi,x.va] 89 (0,0)))
  (hri:Wf.ownsRow 0 42 9 vi (x.I++Q).length ((x.I++Q).flatMap SV.cells)) (hM1:wc.heap.size≤M) (hvi:∀b,vi.ownBlock=some b→x.vi.ownBlock=some b∨M≤b):
  AcPost w B x { a with today:=a.today+d,s:=Z.1,iss:=a.iss++Z.1.out.drop a.s.out.length,seq:=a.seq+1 } Wf:=by
 have hA:=h.keep0 hkc;have hBl:=lt_of_block h.blk;have hvil:∀b,x.vi.ownBlock=some b→b<w.heap.size:=fun b hb=>rowLt h.iss hb;have hsz:=hk2.size;have hszc:=hkc.size;have hsz2c:=hk2c.size;have hZ1:Z=(Z.1,0):=by rw [←hz]
 have hnum:=h.ok.nums;obtain⟨o1,o2,_,_⟩:=walkR_out hZ hz;have hok:AcOk { a with today:=a.today+d,s:=Z.1,iss:=a.iss++Z.1.out.drop a.s.out.length,seq:=a.seq+1 }:=by
  refine⟨by show walkR a.t a.L (a.today+d)=(Z.1,0);rw [hZ];exact hZ1, ?_,fun y hy=> ?_, ?_,by have:=h.ok.s0;show 0≤a.seq+1;omega⟩
  ·show(a.iss++Z.1.out.drop a.s.out.length).length=Z.1.out.length;rw [List.length_append,List.length_drop,h.ok.il];omega
  ·have hy':y∈a.iss++Z.1.out.drop a.s.out.length:=hy;rcases List.mem_append.1 hy' with h1|h1
   ·exact h.ok.ill y h1
   ·exact o1 y (List.mem_of_mem_drop h1)
  ·have:=h.ok.aj;show(a.adj.length:Int)≤301000*(a.seq+1);omega
 have nw:∀b,W2.heap.size≤b→¬TkS B x w W2 b:=fun b hb e=>by
  rcases e with(e|e)|⟨_,e⟩
  ·omega
  ·have:=hvil b e;omega
  ·omega
 have hold:∀b,x.rd b→¬TkS B x w W2 b:=fun b hb e=>by
  rcases e with e|⟨e,_⟩
  ·exact h.sep b hb (e.elim .inl fun e=> .inr (.inl e))
  ·have:=h.lt b (.inr hb);omega
 have hrd:∀b,AcV.rd ({ x with vp:=vp,vr:=vr,vn:=vn,vi:=vi,P:=P,I:=x.I++Q }:AcV) b→x.rd b∨(w.heap.size≤b∧b<M):=by
  rintro b (hb|hb|hb|hb|hb|hb|hb|hb|⟨y,hy,hb⟩|⟨y,hy,hb⟩)
  ·exact .inl (.inl hb)
  ·have:=g.wb b hb;have:=rowLt g.bal hb;exact .inr ⟨by omega,by omega⟩
  ·have:=g.wr b hb;have:=rowLt g.rts hb;exact .inr ⟨by omega,by omega⟩
  ·have:=g.wo b hb;have:=rowLt g.out hb;exact .inr ⟨by omega,by omega⟩
  ·exact .inl (.inr (.inr (.inr (.inr (.inl hb)))))
  ·exact .inl (.inr (.inr (.inr (.inr (.inr (.inl hb))))))
  ·exact .inl (.inr (.inr (.inr (.inr (.inr (.inr (.inl hb)))))))
  ·exact .inl (.inr (.inr (.inr (.inr (.inr (.inr (.inr (.inl hb))))))))
  ·have:=g.wl y hy b hb;have:=rowLt (g.ln y hy) hb;exact .inr ⟨by omega,by omega⟩
  ·rcases List.mem_append.1 hy with h1|h1
   ·exact .inl (.inr (.inr (.inr (.inr (.inr (.inr (.inr (.inr (.inr ⟨y,h1,hb⟩)))))))))
   ·have:=hqf y h1 b hb;have:=rowLt (hql y h1) hb;exact .inr ⟨by omega,by omega⟩
 have haf:∀b,AcF B ({ x with vp:=vp,vr:=vr,vn:=vn,vi:=vi,P:=P,I:=x.I++Q }:AcV) b→AcF B x b∨M≤b:=by
  rintro b (hb|hb|hb)
  ·exact .inl (.inl hb)
  ·exact(hvi b hb).imp (fun e=> .inr (.inl e)) id
  ·exact .inl (.inr (.inr hb))
 have hKF:=(hkc.mono (T:=AcF B x) (by simp)).trans (hK.mono fun i _ e=>e.elim (fun e=> .inl (e.elim .inl fun e=> .inr (.inl e))) fun e=> .inr e.1);obtain⟨h1,h2⟩:=AcAt.build (x':={ x with vp:=vp,vr:=vr,vn:=vn,vi:=vi,P:=P,I:=x.I++Q }) (a':={ a with today:=a.today+d,s:=Z.1,iss:=a.iss++Z.1.out.drop a.s.out.length,seq:=a.seq+1 }) h M (by omega) hKF rfl rfl hb
  (hA.dl.keepS hK (hold _ (.inr (.inr (.inr (.inr (.inl rfl)))))) (fun b hb=>hold b (.inr (.inr (.inr (.inr (.inr (.inl hb))))))) (fun b hb=>hold b (.inr (.inr (.inr (.inr (.inr (.inr (.inl hb)))))))))
  (hA.bk.keeps hK fun b hb=>hold b (.inr (.inr (.inr (.inr (.inr (.inr (.inr (.inl hb)))))))))
  (by rw [show Z.1.p.bal.length=n from g.nb];exact hK.row g.bal fun b hb=>nw b (g.wb b hb)) (by rw [show Z.1.R.length=n from g.nr];exact hK.row g.rts fun b hb=>nw b (g.wr b hb)) (hK.row g.out fun b hb=>nw b (g.wo b hb)) (fun y hy=>hK.row (g.ln y hy) fun b hb=>nw b (g.wl y hy b hb)) g.lp
  hri (fun y hy=>by
   rcases List.mem_append.1 hy with h1|h1
   ·exact hK.row (hA.iln y h1) fun b hb=>hold b (.inr (.inr (.inr (.inr (.inr (.inr (.inr (.inr (.inr ⟨y,h1,hb⟩)))))))))
   ·exact hK.row (hql y h1) fun b hb=>nw b (hqf y h1 b hb)) (by rw [List.map_append,hA.is,hq]) (hK.row hA.adj fun b hb e=>by
   rcases e with(e|e)|⟨e,_⟩
   ·exact h.sa b hb e
   ·exact h.si b e (.inr hb)
   ·have:=rowLt h.adj hb;omega) hok hrd haf
 exact⟨_,h1,hKF,h2⟩
def TickPost(a:Ac)(d:Int)(w:World)(B:Nat)(x:AcV)(e:Ending)(w':World):Prop:=e= .returned (.agg #[.int .i64 (a.te d),.int .i64 0,.int .i64 (a.tc d),.int .i64 0,.int .i64 0,.slice none 0 0,.int .i64 0,.int .i64 0,.slice none 0 0,.slice none 0 0,.int .i64 0,.int .i64 0,.int .i64 0,.int .i64 0,.int .i64 0,.slice none 0 0,.int .i64 0,.int .i64 0,.int .i64 0,.bool false])∧AcPost w B x (a.tick d) w'
theorem accTick_arg(B:Nat)(x:AcV)(a:Ac)(d:Int)(w:World)(h:AcAt w B x a)(hd:d<1∨400<d):Calls Tryz.prog 39 #[(.pointer (some ⟨B,0,none⟩)),.int .i64 d] w (TickPost a d w B x):=by
 by_cases h1:d<1
 ·exact jY1
 ·have h2:400<d:=by omega
  exact jY1
set_option maxHeartbeats 3200000
theorem accTick_any(B:Nat)(x:AcV)(a:Ac)(d:Int)(w:World)(h:AcAt w B x a)(hs:a.seq≤100000)(hmo:a.te d=0→a.s.out.length≤(a.tz d).1.out.length):Calls Tryz.prog 39 #[(.pointer (some ⟨B,0,none⟩)),.int .i64 d] w (TickPost a d w B x):=by
 by_cases hd:d<1∨400<d
 ·exact accTick_arg B x a d w h hd
 obtain⟨i0,hi,hi0,hi1,hi2⟩:=info_parts info_tStm;have hn:=h.ok.nums;have hd1:¬d<1:=by omega
 have hd2:¬400<d:=by omega
 obtain⟨W0,hW0⟩:∃x,x=w.alloc (.cells #[.int .i64 0,.int .i64 0,.int .i64 0,.int .i64 0,.int .i64 0,.slice none 0 0,.int .i64 0,.int .i64 0,.slice none 0 0,.slice none 0 0,.int .i64 0,.int .i64 0,.int .i64 0,.int .i64 0,.int .i64 0,.slice none 0 0,.int .i64 0,.int .i64 0,.int .i64 0,.bool false] 44):=⟨_,rfl⟩;have hb0:W0.heap[w.heap.size]?=some (.cells #[.int .i64 0,.int .i64 0,.int .i64 0,.int .i64 0,.int .i64 0,.slice none 0 0,.int .i64 0,.int .i64 0,.slice none 0 0,.slice none 0 0,.int .i64 0,.int .i64 0,.int .i64 0,.int .i64 0,.int .i64 0,.slice none 0 0,.int .i64 0,.int .i64 0,.int .i64 0,.bool false] 44 (0,0)):=by rw [hW0];exact heap_alloc_new w _
 have hk0:Keeps (fun _=>False) w W0:=by rw [hW0];exact Keeps.alloc _ _
 obtain⟨st,hst⟩:∃s,a.t.start=s:=⟨_,rfl⟩;obtain⟨cd,hcd⟩:∃s,a.t.cyc=s:=⟨_,rfl⟩;obtain⟨td,htd⟩:∃s,a.today=s:=⟨_,rfl⟩;have td0: -135140≤td:=by have:=hn.ds;have:=hn.d0;omega
 have td1:td≤2932896:=by have:=hn.d1;omega
 have hcy:=fun W=>cycOf_any st cd (td+d) W ⟨by have:=hn.ds;omega,by have:=hn.d0;have:=hn.d1;omega⟩;obtain⟨z1,hz1⟩:∃z,ofE st cd (td+d)=z:=⟨_,rfl⟩;obtain⟨y1,hy1⟩:∃z,ofV st cd (td+d)=z:=⟨_,rfl⟩;rw [hz1,hy1] at hcy;have hcS:∀W,Keeps (fun _=>False) w W→cy7S B st cd td W:=fun W hW=>by
  have hA:=h.keep0 hW;exact⟨by rw [←hst];exact Aa hA.blk 6,by rw [←hcd];exact Aa hA.blk 2,by rw [←htd];exact Aa hA.blk 7⟩
 have q1:IntKind.i64.wrap (td+d)=td+d:=IntWalk.i64_in _ ⟨by omega,by omega⟩;have HBl:=Lib.hid (lt_of_block h.blk);have hbl:=lt_of_block h.blk;obtain⟨H,Hn,Hb0,Hk0,Hcy,Hz1,Hy1,HcS,Hst⟩:=hid9 h hn hb0 hk0 hcy hz1 hy1 hcS hst;clear hst hcS hy1 hz1 hcy hk0 hb0 hn h;obtain⟨Hcd,Htd,Hmo,Hd,Hi,Hi0,Hi1,Hi2⟩:=hid8 hcd htd hmo hd hi hi0 hi1 hi2;clear hi2 hi1 hi0 hi hd hmo htd hcd
 go_enter Tryz.func39,Tryz.ntmps39
 go_upto_region 3 with fail
 rw [←hW0];clear hW0;refine Ao (cy7S B st cd td) (.take 0 (.take 1 (.take 2 (.take 3 (.take 4 (.take 5 (.take 6 (.take 7 (.take 8 (.take 9 (.take 10 (.take 11 (.take 12 (.take 13 (.take 14 (.take 15 (.move 16 (.take 17 (.take 18 (.take 19 (.take 20 (.take 21 .done)))))))))))))))))))))) (by kernel_rfl) (by kernel_rfl) ?_ ?_
 ·exact HcS.out _ (Hk0.out.nt (Keeps.drew _))
 intro w1 hs1 hk1
 repeat ((first|refine Ai rfl (by rfl) ?_|refine Af rfl (by rfl) ?_|(refine Ah (v:= ?_) rfl (by rfl) ?_ ?_;rotate_left;(· intro w' hSw;unfold cy7S at hSw;go_simp;(try with_reducible rfl));rotate_right));try simp only [aps])
 refine Ak rfl (fun K hK=> ?_)
 go_simp
 go_at_call 62
 ((with_reducible refine(Hcy.out w1).mono ?_);rintro e w2 ⟨rfl,hk2⟩;dsimp only)
 have hk02:=Keeps.nt (Keeps.nt Hk0.out hk1) hk2;refine hK.out _ _ (by exact HcS.out _ hk02) ?_;clear hK K
 try simp only [aps]
 have hb2:=Ad (Ad Hb0.out hk1 (by simp)) hk2 (by simp);clear hs1 hk1 hk2;obtain⟨Hk02,Hb2⟩:=hid2 hk02 hb2;clear hb2 hk02
 repeat ((first|refine Ai rfl (by rfl) ?_|refine Af rfl (by rfl) ?_|(refine Ah (v:= ?_) rfl (by rfl) ?_ ?_;rotate_left;(· intro w' hSw;unfold cy7S at hSw;go_simp;(try with_reducible rfl));rotate_right));try simp only [aps])
 refine Aw ?_;by_cases h0:z1=0
 ·subst h0;have hofz:ofE a.t.start a.t.cyc (a.today+d)=0:=by rw [Hst.out,Hcd.out,Htd.out,Hz1.out]
  have hkw2:=Hk02.out;obtain⟨n,hN⟩:∃n,a.t.trs.length=n:=⟨_,rfl⟩;obtain⟨Z,hZ⟩:∃Z,walkR a.t a.L (a.today+d)=Z:=⟨_,rfl⟩;have hcz:a.tz d=Z:=hZ;obtain⟨adt,ct,hvt,_,_⟩:=Aj H.out.trs;have hrt:=Reads.Bh H.out.trs;rw [hN] at hvt hrt;obtain⟨t,ht⟩:∃t,a.t=t:=⟨_,rfl⟩;obtain⟨L1,hL1⟩:∃L,a.L=L:=⟨_,rfl⟩;have hL1l:L1.length≤3000:=by rw [←hL1];have:=Hn.out.ll;omega
  rw [ht,hL1,Htd.out] at hZ;rw [ht] at hN hrt;rw [hvt] at hrt;have hdl2:=H.out.dl.keep hkw2;rw [ht,hL1] at hdl2;obtain⟨B1,hB1⟩:∃b,x.bl=b:=⟨_,rfl⟩;rw [hB1] at hdl2;have hall:=fun W (hW:Keeps (fun _=>False) w2 W)=>datAll_any B1 t x.vtl x.vl L1 W (hdl2.keep hW) (by omega);have hrun:=fun W (hW:Keeps (fun _=>False) w2 W) ad c (hr:Reads W 5 (.slice ad L1.length c) L1.length (L1.flatMap Ev.cells))=>repRun_any t adt ct n L1 ad c L1.length (td+d) W hN (hrt.keeps (hkw2.nt hW) (by simp)) rfl hr (by omega) (by have:=Hn.out.n8;rw [ht,hN] at this;omega);rw [hZ] at hrun;have hSk:∀W,Keeps (fun _=>False) w2 W→acT9 B t (.slice adt n ct) td B1 W:=fun W hW=>by have:=acT9.of (H.out.keep0 (hkw2.nt hW));rw [ht,Htd.out,hvt,hB1] at this;exact this
  obtain⟨W2,hW2⟩:∃W,W=w2:=⟨_,rfl⟩;subst hW2;have HBl2:=Lib.hid (Nat.lt_of_lt_of_le HBl.out hkw2.size);clear HBl;have HBl:=HBl2;clear HBl2;obtain⟨Hkw2,Hdl2,HL1,HL1l,HN,HZ,Hvt,Hrt,Ht⟩:=hid9 hkw2 hdl2 hL1 hL1l hN hZ hvt hrt ht;clear ht hrt hvt hZ hN hL1l hL1 hdl2 hkw2;obtain⟨Hall,Hrun,HSk,Hcz,Hofz,HB1⟩:=hid6 hall hrun hSk hcz hofz hB1;clear hB1 hofz hcz hSk hrun hall
  go_upto_region 6 with fail
  go_cut [7,8,9,10] (fun p r q z wx=>CnRun W2 n Z p r q z wx)
  case first=>
   refine Ao (acT9 B t (.slice adt n ct) td B1) (.take 0 (.take 1 (.take 2 (.take 3 (.take 4 (.take 5 (.take 6 (.take 7 (.take 9 (.take 10 (.take 11 (.take 12 (.take 13 (.take 14 (.fork 8 (.fork 15 (.take 16 (.take 17 (.take 18 (.take 19 (.take 20 (.move 21 (.move 22 (.take 23 (.take 24 (.take 25 .done)))))))))) 21 (.move 15 (.take 16 (.take 17 (.take 18 (.take 19 (.take 20 (.move 22 (.take 23 (.take 24 (.take 25 .done))))))))))) 21 (.move 8 (.move 15 (.take 16 (.take 17 (.take 18 (.take 19 (.take 20 (.move 22 (.take 23 (.take 24 (.take 25 .done)))))))))))))))))))))))))) (by kernel_rfl) (by kernel_rfl) ?_ ?_
   ·exact HSk.out _ (Keeps.drew _)
   intro w3 hs3 hk3
   repeat ((first|refine Ai rfl (by rfl) ?_|refine Af rfl (by rfl) ?_|(refine Ah (v:= ?_) rfl (by rfl) ?_ ?_;rotate_left;(· intro w' hSw;unfold acT9 tbS at hSw;go_simp;(try with_reducible rfl));rotate_right));try simp only [aps])
   refine Cv ?_ ?_ (HSk.out _ hk3)
   ·refine Ak rfl (fun K hK=> ?_)
    go_simp
    go_at_call 53
    ((with_reducible refine(Hall.out w3 hk3).mono ?_);rintro e w4 hg)
    obtain⟨v',rfl,hrd,hkg,hng⟩:=hg;obtain⟨ae,ce,rfl,_⟩:=id hrd;dsimp only;have hkn:Keeps (fun _=>False) W2 w4:=Keeps.nt hk3 hkg;refine hK.out _ _ (by exact HSk.out _ hkn) ?_;clear hK K
    try simp only [aps]
    repeat ((first|refine Ai rfl (by rfl) ?_|refine Af rfl (by rfl) ?_|(refine Ah (v:= ?_) rfl (by rfl) ?_ ?_;rotate_left;(· intro w' hSw;unfold acT9 tbS at hSw;go_simp;(try with_reducible rfl));rotate_right));try simp only [aps])
    refine Cv ?_ ?_ (HSk.out _ hkn)
    ·refine Ak rfl (fun K hK=> ?_)
     go_simp
     go_at_call 37
     ((with_reducible refine(Hrun.out w4 hkn ae ce hrd).mono ?_);intro e w5 hpo)
     obtain⟨vb2,cr2,du2,vr2,vo2,z2,rfl,hi2,hk7,a2,n2,c2,rfl⟩:=run_is hpo;clear hpo;dsimp only;have hkr:Keeps (fun _=>False) W2 w5:=Keeps.nt hkn hk7;refine hK.out _ _ (by exact HSk.out _ hkr) ?_;clear hK K
     try simp only [aps]
     repeat ((first|refine Ai rfl (by rfl) ?_|refine Af rfl (by rfl) ?_|(refine Ah (v:= ?_) rfl (by rfl) ?_ ?_;rotate_left;(· intro w' hSw;unfold acT9 tbS at hSw;go_simp;(try with_reducible rfl));rotate_right));try simp only [aps])
     obtain⟨w8,hw8⟩:∃x,x=(w5).alloc (.cells #[.slice none 0 0,.int .i64 0,.int .i64 0] 34):=⟨_,rfl⟩;obtain⟨b7,hb7⟩:∃x,x=(w5).heap.size:=⟨_,rfl⟩;have hkA:Keeps (fun _=>False) w5 w8:=by rw [hw8];exact Keeps.alloc _ _
     have hz8:(w8).heap[b7]?=some (.cells #[.slice none 0 0,.int .i64 0,.int .i64 0] 34 (0,0)):=by rw [hw8,hb7];exact heap_alloc_new _ _
     have hb7l:W2.heap.size≤b7:=by rw [hb7];exact(hkr).size
     have hka8:Keeps (fun _=>False) W2 w8:=Keeps.nt hkr hkA;have hb7B:¬B=b7:=fun e=>by have:=HBl.out;omega
     have hb7w:(w5).heap.size≤b7:=by rw [hb7];exact Nat.le_refl _
     refine Ak rfl (fun K hK=> ?_)
     go_simp
     rw [←hw8,←hb7];clear hw8 hb7;refine hK.out _ _ (by exact HSk.out _ hka8) ?_;clear hK K
     try simp only [aps]
     repeat ((first|refine Ai rfl (by rfl) ?_|refine Af rfl (by rfl) ?_|(refine Ah (v:= ?_) rfl (by rfl) ?_ ?_;rotate_left;(· intro w' hSw;unfold acT9 tbS at hSw;go_simp;(try with_reducible rfl));rotate_right));try simp only [aps])
     have hlz:=lt_of_block hz8;have z0:=Aa hz8 0;have z1:=Aa hz8 1;have z2':=Aa hz8 2;have zf0:=Ab hz8 0;have zf1:=Ab hz8 1;have zf2:=Ab hz8 2;obtain⟨hbz,hkz⟩:=store3 hz8 (.slice a2 n2 c2) (.int .i64 cr2) (.int .i64 du2);have hk4z:Keeps (fun _=>False) W2 ((((w8).setCell ⟨b7,0,none⟩ (.slice a2 n2 c2)).setCell ⟨b7,1,none⟩ (.int .i64 cr2)).setCell ⟨b7,2,none⟩ (.int .i64 du2)):=Keeps.trans hka8 (hkz.mono fun i _ e=> .inr (by have e':i=b7:=e;omega));have hrel:CnRun W2 n Z (.pointer (some ⟨b7,0,none⟩)) vr2 vo2 (.int .i64 z2) ((((w8).setCell ⟨b7,0,none⟩ (.slice a2 n2 c2)).setCell ⟨b7,1,none⟩ (.int .i64 cr2)).setCell ⟨b7,2,none⟩ (.int .i64 du2)):=⟨b7,_,_,_,cr2,du2,z2,rfl,rfl,rfl,rfl,hb7l,hk4z,hbz,((hi2.up hkn).keep (hkA.trans (hkz.mono fun i _ e=> .inr (by have e':i=b7:=e;omega)))),_,_,_,rfl⟩;exact jY4
    ·obtain⟨w8,hw8⟩:∃x,x=(w4).alloc (.cells #[.slice none 0 0,.int .i64 0,.int .i64 0] 34):=⟨_,rfl⟩;obtain⟨b7,hb7⟩:∃x,x=(w4).heap.size:=⟨_,rfl⟩;have hkA:Keeps (fun _=>False) w4 w8:=by rw [hw8];exact Keeps.alloc _ _
     have hz8:(w8).heap[b7]?=some (.cells #[.slice none 0 0,.int .i64 0,.int .i64 0] 34 (0,0)):=by rw [hw8,hb7];exact heap_alloc_new _ _
     have hb7l:W2.heap.size≤b7:=by rw [hb7];exact(hkn).size
     have hka8:Keeps (fun _=>False) W2 w8:=Keeps.nt hkn hkA;have hb7B:¬B=b7:=fun e=>by have:=HBl.out;omega
     have hb7w:(w4).heap.size≤b7:=by rw [hb7];exact Nat.le_refl _
     refine Ak rfl (fun K hK=> ?_)
     go_simp
     rw [←hw8,←hb7];clear hw8 hb7;refine hK.out _ _ (by exact HSk.out _ hka8) ?_;clear hK K
     try simp only [aps]
     repeat ((first|refine Ai rfl (by rfl) ?_|refine Af rfl (by rfl) ?_|(refine Ah (v:= ?_) rfl (by rfl) ?_ ?_;rotate_left;(· intro w' hSw;unfold acT9 tbS at hSw;go_simp;(try with_reducible rfl));rotate_right));try simp only [aps])
     have hrd8:=hrd.keeps hkA (by simp);refine Ak rfl (fun K hK=> ?_)
     go_simp
     go_at_call 37
     ((with_reducible refine(Hrun.out w8 hka8 ae ce hrd8).mono ?_);intro e w5 hpo)
     obtain⟨vb2,cr2,du2,vr2,vo2,z2,rfl,hi2,hk7,a2,n2,c2,rfl⟩:=run_is hpo;clear hpo;dsimp only;have hkr:Keeps (fun _=>False) W2 w5:=Keeps.nt hka8 hk7;refine hK.out _ _ (by exact HSk.out _ hkr) ?_;clear hK K
     try simp only [aps]
     have hz5:=Ad hz8 hk7 (by simp);have hl8:=lt_of_block hz8
     repeat ((first|refine Ai rfl (by rfl) ?_|refine Af rfl (by rfl) ?_|(refine Ah (v:= ?_) rfl (by rfl) ?_ ?_;rotate_left;(· intro w' hSw;unfold acT9 tbS at hSw;go_simp;(try with_reducible rfl));rotate_right));try simp only [aps])
     have hlz:=lt_of_block hz5;have z0:=Aa hz5 0;have z1:=Aa hz5 1;have z2':=Aa hz5 2;have zf0:=Ab hz5 0;have zf1:=Ab hz5 1;have zf2:=Ab hz5 2;obtain⟨hbz,hkz⟩:=store3 hz5 (.slice a2 n2 c2) (.int .i64 cr2) (.int .i64 du2);have hk4z:Keeps (fun _=>False) W2 ((((w5).setCell ⟨b7,0,none⟩ (.slice a2 n2 c2)).setCell ⟨b7,1,none⟩ (.int .i64 cr2)).setCell ⟨b7,2,none⟩ (.int .i64 du2)):=Keeps.trans hkr (hkz.mono fun i _ e=> .inr (by have e':i=b7:=e;omega));have hrel:CnRun W2 n Z (.pointer (some ⟨b7,0,none⟩)) vr2 vo2 (.int .i64 z2) ((((w5).setCell ⟨b7,0,none⟩ (.slice a2 n2 c2)).setCell ⟨b7,1,none⟩ (.int .i64 cr2)).setCell ⟨b7,2,none⟩ (.int .i64 du2)):=⟨b7,_,_,_,cr2,du2,z2,rfl,rfl,rfl,rfl,hb7l,hk4z,hbz,(hi2.lift hkz hl8 hka8 hb7l),_,_,_,rfl⟩;exact jY4
   ·obtain⟨w8,hw8⟩:∃x,x=(w3).alloc (.cells #[.slice none 0 0,.int .i64 0,.int .i64 0] 34):=⟨_,rfl⟩;obtain⟨b7,hb7⟩:∃x,x=(w3).heap.size:=⟨_,rfl⟩;have hkA:Keeps (fun _=>False) w3 w8:=by rw [hw8];exact Keeps.alloc _ _
    have hz8:(w8).heap[b7]?=some (.cells #[.slice none 0 0,.int .i64 0,.int .i64 0] 34 (0,0)):=by rw [hw8,hb7];exact heap_alloc_new _ _
    have hb7l:W2.heap.size≤b7:=by rw [hb7];exact(hk3).size
    have hka8:Keeps (fun _=>False) W2 w8:=Keeps.nt hk3 hkA;have hb7B:¬B=b7:=fun e=>by have:=HBl.out;omega
    have hb7w:(w3).heap.size≤b7:=by rw [hb7];exact Nat.le_refl _
    refine Ak rfl (fun K hK=> ?_)
    go_simp
    rw [←hw8,←hb7];clear hw8 hb7;refine hK.out _ _ (by exact HSk.out _ hka8) ?_;clear hK K
    try simp only [aps]
    repeat ((first|refine Ai rfl (by rfl) ?_|refine Af rfl (by rfl) ?_|(refine Ah (v:= ?_) rfl (by rfl) ?_ ?_;rotate_left;(· intro w' hSw;unfold acT9 tbS at hSw;go_simp;(try with_reducible rfl));rotate_right));try simp only [aps])
    refine Ak rfl (fun K hK=> ?_)
    go_simp
    go_at_call 53
    ((with_reducible refine(Hall.out w8 hka8).mono ?_);rintro e w4 hg)
    obtain⟨v',rfl,hrd,hkg,hng⟩:=hg;obtain⟨ae,ce,rfl,_⟩:=id hrd;dsimp only;have hkn:Keeps (fun _=>False) W2 w4:=Keeps.nt hka8 hkg;refine hK.out _ _ (by exact HSk.out _ hkn) ?_;clear hK K
    try simp only [aps]
    have hz4:=Ad hz8 hkg (by simp);have hl4:=lt_of_block hz4
    repeat ((first|refine Ai rfl (by rfl) ?_|refine Af rfl (by rfl) ?_|(refine Ah (v:= ?_) rfl (by rfl) ?_ ?_;rotate_left;(· intro w' hSw;unfold acT9 tbS at hSw;go_simp;(try with_reducible rfl));rotate_right));try simp only [aps])
    refine Ak rfl (fun K hK=> ?_)
    go_simp
    go_at_call 37
    ((with_reducible refine(Hrun.out w4 hkn ae ce hrd).mono ?_);intro e w5 hpo)
    obtain⟨vb2,cr2,du2,vr2,vo2,z2,rfl,hi2,hk7,a2,n2,c2,rfl⟩:=run_is hpo;clear hpo;dsimp only;have hkr:Keeps (fun _=>False) W2 w5:=Keeps.nt hkn hk7;refine hK.out _ _ (by exact HSk.out _ hkr) ?_;clear hK K
    try simp only [aps]
    have hz5:=Ad hz4 hk7 (by simp)
    repeat ((first|refine Ai rfl (by rfl) ?_|refine Af rfl (by rfl) ?_|(refine Ah (v:= ?_) rfl (by rfl) ?_ ?_;rotate_left;(· intro w' hSw;unfold acT9 tbS at hSw;go_simp;(try with_reducible rfl));rotate_right));try simp only [aps])
    have hlz:=lt_of_block hz5;have z0:=Aa hz5 0;have z1:=Aa hz5 1;have z2':=Aa hz5 2;have zf0:=Ab hz5 0;have zf1:=Ab hz5 1;have zf2:=Ab hz5 2;obtain⟨hbz,hkz⟩:=store3 hz5 (.slice a2 n2 c2) (.int .i64 cr2) (.int .i64 du2);have hk4z:Keeps (fun _=>False) W2 ((((w5).setCell ⟨b7,0,none⟩ (.slice a2 n2 c2)).setCell ⟨b7,1,none⟩ (.int .i64 cr2)).setCell ⟨b7,2,none⟩ (.int .i64 du2)):=Keeps.trans hkr (hkz.mono fun i _ e=> .inr (by have e':i=b7:=e;omega));have hrel:CnRun W2 n Z (.pointer (some ⟨b7,0,none⟩)) vr2 vo2 (.int .i64 z2) ((((w5).setCell ⟨b7,0,none⟩ (.slice a2 n2 c2)).setCell ⟨b7,1,none⟩ (.int .i64 cr2)).setCell ⟨b7,2,none⟩ (.int .i64 du2)):=⟨b7,_,_,_,cr2,du2,z2,rfl,rfl,rfl,rfl,hb7l,hk4z,hbz,(hi2.lift hkz hl4 hkn hb7l),_,_,_,rfl⟩;exact jY4
  obtain⟨b7,vb,vr,vo,cr,du,zz,rfl,rfl,rfl,rfl,hb7,hk7,hbx7,hi7,av,mv,cv,rfl⟩:=hcut;obtain⟨W7,hW7⟩:∃x,x=wc:=⟨_,rfl⟩;subst hW7;have hkw7:=Hkw2.out.nt hk7;have hb7':=Ad Hb2.out hk7 (by simp);clear q1
  cases hi7 with
  |bad hz7=>
   obtain⟨zz,hzz⟩:∃zz,Z.2=zz:=⟨_,rfl⟩;rw [hzz] at hz7⊢;have hne:(zz !=0)=true:=by simp [hz7]
   have hc:=te_bad (a:=a) Hd.out Hofz.out (by rw [Hcz.out,hzz];exact hz7);rw [Hcz.out,hzz] at hc;obtain⟨Hzz,Hz7,Hc,Hkw7,Hk7,Hbx7,Hb7'⟩:=hid7 hzz hz7 hc hkw7 hk7 hbx7 hb7';clear hb7' hbx7 hk7 hkw7 hc hz7 hzz
   go_wp2_with fail
   refine(Cb zz _).mono ?_;rintro e w8 ⟨rfl,hk8⟩;have hb8:=Ad Hb7'.out hk8 (by simp);have hk08:=Hkw7.out.nt hk8;clear hk8;obtain⟨Hb8,Hk08⟩:=hid2 hb8 hk08;clear hk08 hb8;obtain⟨hput1,hput2⟩:=putRow (V:= #[.int .i64 zz,.int .i64 0,.int .i64 0,.int .i64 0,.int .i64 0,.slice none 0 0,.int .i64 0,.int .i64 0,.slice none 0 0,.slice none 0 0,.int .i64 0,.int .i64 0,.int .i64 0,.int .i64 0,.int .i64 0,.slice none 0 0,.int .i64 0,.int .i64 0,.int .i64 0,.bool false]) Hb8.out Hk08.out (Nat.le_refl _);obtain⟨Hput1,Hput2⟩:=hid2 hput1 hput2;clear hput2 hput1
   go_wp2_with (refine wpList_store_row rfl 44 (.tmp 4) (.tmp 66) rfl w.heap.size #[.int .i64 zz,.int .i64 0,.int .i64 0,.int .i64 0,.int .i64 0,.slice none 0 0,.int .i64 0,.int .i64 0,.slice none 0 0,.slice none 0 0,.int .i64 0,.int .i64 0,.int .i64 0,.int .i64 0,.int .i64 0,.slice none 0 0,.int .i64 0,.int .i64 0,.int .i64 0,.bool false] rfl rfl 44 #[.int .i64 0,.int .i64 0,.int .i64 0,.int .i64 0,.int .i64 0,.slice none 0 0,.int .i64 0,.int .i64 0,.slice none 0 0,.slice none 0 0,.int .i64 0,.int .i64 0,.int .i64 0,.int .i64 0,.int .i64 0,.slice none 0 0,.int .i64 0,.int .i64 0,.int .i64 0,.bool false] Hb8.out Ar rfl (Br zz 0 0) ?_)
   exact bodyPost_ret (results_cell_row rfl _ _ w.heap.size 44 #[.int .i64 zz,.int .i64 0,.int .i64 0,.int .i64 0,.int .i64 0,.slice none 0 0,.int .i64 0,.int .i64 0,.slice none 0 0,.slice none 0 0,.int .i64 0,.int .i64 0,.int .i64 0,.int .i64 0,.int .i64 0,.slice none 0 0,.int .i64 0,.int .i64 0,.int .i64 0,.bool false] _ _ rfl Hput1.out Tryz.underlying44 rfl Ar) rfl ⟨by rw [Hc.out.1,Hc.out.2.1],by rw [Hc.out.2.2];exact AcPost.same H.out Hput2.out⟩
  | @ok _ _ _ P hz7 g=>
   have hA:=H.out.keep0 hkw7;obtain⟨hte,htc,htk⟩:=te_ok (a:=a) Hd.out Hofz.out (by rw [Hcz.out];exact hz7);have hmo:=Hmo.out hte;rw [Hcz.out] at htc htk hmo;obtain⟨adn,cn,hvn,hstm,hPl⟩:=hA.stmN;obtain⟨ao,co,rfl,hco,hao⟩:=Aj g.out;obtain⟨ar,cr2,rfl,_,_⟩:=Aj g.rts;obtain⟨o1,o2,_,_⟩:=walkR_out HZ.out hz7;obtain⟨n1,hn1⟩:∃n,x.P.length=n:=⟨_,rfl⟩;obtain⟨n2,hn2⟩:∃n,P.length=n:=⟨_,rfl⟩;have hn1':a.s.out.length=n1:=by rw [←hn1,←H.out.ns,List.length_map]
   have hn2':Z.1.out.length=n2:=by rw [←hn2,←g.lp,List.length_map]
   rw [hn1',hn2'] at hmo htc;rw [hn2];rw [hn1] at hvn hPl;rw [hn2] at hco;have hll:∀y∈P,y.s.lines.length≤1000:=fun y hy=>by
    have h1:y.s∈Z.1.out:=by rw [←g.lp];exact List.mem_map.2 ⟨y,hy,rfl⟩
    have h2:=o1 _ h1;have h3:=Hn.out.n8;rw [Ht.out] at h3;omega
   have hn2l:n2≤300:=by rw [←hn2'];exact o2
   obtain⟨tcv,htcv⟩:∃z,a.tc d=z:=⟨_,rfl⟩;rw [htcv] at htc;obtain⟨w8,hw8⟩:∃W,W=(W7.alloc (.cells #[.int .i64 0,.int .i64 0,.int .i64 0,.int .i64 0,.int .i64 0,.slice none 0 0,.int .i64 0,.int .i64 0,.slice none 0 0,.slice none 0 0,.int .i64 0,.int .i64 0,.int .i64 0,.int .i64 0,.int .i64 0,.slice none 0 0,.int .i64 0,.int .i64 0,.int .i64 0,.bool false] 44)).setRow W7.heap.size #[.int .i64 0,.int .i64 0,.int .i64 0,.int .i64 0,.int .i64 0,.slice none 0 0,.int .i64 0,.int .i64 0,.slice none 0 0,.slice none 0 0,.int .i64 0,.int .i64 0,.int .i64 0,.int .i64 0,.int .i64 0,.slice none 0 0,.int .i64 0,.int .i64 0,.int .i64 0,.bool false]:=⟨_,rfl⟩;obtain⟨b11,hb11⟩:∃b,b=W7.heap.size:=⟨_,rfl⟩;have hb11l:W7.heap.size≤b11:=by rw [hb11];exact Nat.le_refl _
   have hk8:Keeps (fun _=>False) W7 w8:=by rw [hw8];exact(Keeps.alloc (S:=fun _=>False) W7 (.cells #[.int .i64 0,.int .i64 0,.int .i64 0,.int .i64 0,.int .i64 0,.slice none 0 0,.int .i64 0,.int .i64 0,.slice none 0 0,.slice none 0 0,.int .i64 0,.int .i64 0,.int .i64 0,.int .i64 0,.int .i64 0,.slice none 0 0,.int .i64 0,.int .i64 0,.int .i64 0,.bool false] 44)).trans ((Ca _ _ _).mono fun i _ e=> .inr (by have e':i=W7.heap.size:=e;omega))
   have c15:w8.cell? ⟨B,15,none⟩=some (.slice adn n1 cn):=by rw [←hvn];exact Aa (hA.keep0 hk8).blk 15
   have hblc:=lt_of_block (hA.keep0 hk8).blk;have hbx8:w8.heap[b11]?=some (.cells #[.int .i64 0,.int .i64 0,.int .i64 0,.int .i64 0,.int .i64 0,.slice none 0 0,.int .i64 0,.int .i64 0,.slice none 0 0,.slice none 0 0,.int .i64 0,.int .i64 0,.int .i64 0,.int .i64 0,.int .i64 0,.slice none 0 0,.int .i64 0,.int .i64 0,.int .i64 0,.bool false] 44 (0,0)):=by rw [hw8,hb11];exact setRow_heap _ _ _ _ _ _ (heap_alloc_new W7 (.cells #[.int .i64 0,.int .i64 0,.int .i64 0,.int .i64 0,.int .i64 0,.slice none 0 0,.int .i64 0,.int .i64 0,.slice none 0 0,.slice none 0 0,.int .i64 0,.int .i64 0,.int .i64 0,.int .i64 0,.int .i64 0,.slice none 0 0,.int .i64 0,.int .i64 0,.int .i64 0,.bool false] 44))
   obtain⟨Hz7,Hk7,Hbx7,Hkw7,Hb7',G,HA,Hte,Htk⟩:=hid9 hz7 hk7 hbx7 hkw7 hb7' g hA hte htk;clear htk hte hA g hb7' hkw7 hbx7 hk7 hz7;obtain⟨Hvn,Hstm,Hn1,Hn2,Hn1',Hn2',Hll,Htcv,Hk8⟩:=hid9 hvn hstm hn1 hn2 hn1' hn2' hll htcv hk8;clear hk8 htcv hll hn2' hn1' hn2 hn1 hstm hvn;obtain⟨Hbx8,O1,Hao⟩:=hid3 hbx8 o1 hao;clear hao o1 hbx8
   go_upto_if 75 with(refine wpList_store_row rfl 44 (.tmp 11) (.tmp 67) rfl W7.heap.size #[.int .i64 0,.int .i64 0,.int .i64 0,.int .i64 0,.int .i64 0,.slice none 0 0,.int .i64 0,.int .i64 0,.slice none 0 0,.slice none 0 0,.int .i64 0,.int .i64 0,.int .i64 0,.int .i64 0,.int .i64 0,.slice none 0 0,.int .i64 0,.int .i64 0,.int .i64 0,.bool false] rfl rfl 44 #[.int .i64 0,.int .i64 0,.int .i64 0,.int .i64 0,.int .i64 0,.slice none 0 0,.int .i64 0,.int .i64 0,.slice none 0 0,.slice none 0 0,.int .i64 0,.int .i64 0,.int .i64 0,.int .i64 0,.int .i64 0,.slice none 0 0,.int .i64 0,.int .i64 0,.int .i64 0,.bool false] (heap_alloc_new W7 _) Ar rfl (Br 0 0 0) ?_;rw [←hw8,←hb11];clear hw8 hb11)
   go_cut [11] (fun p wx=>p=(.pointer (some ⟨b11,0,none⟩))∧wx.heap[b11]?=some (.cells #[.int .i64 0,.int .i64 0,.int .i64 tcv,.int .i64 0,.int .i64 0,.slice none 0 0,.int .i64 0,.int .i64 0,.slice none 0 0,.slice none 0 0,.int .i64 0,.int .i64 0,.int .i64 0,.int .i64 0,.int .i64 0,.slice none 0 0,.int .i64 0,.int .i64 0,.int .i64 0,.bool false] 44 (0,0))∧Keeps (fun _=>False) W7 wx)
   case first=>
    by_cases hlt:n1<n2
    ·have hltI:(n1:Int)<(n2:Int):=by omega
     rw [if_pos hlt] at htc;subst htc;have x2:=Aa Hbx8.out 2;have y2:=Ab Hbx8.out 2;have xl:=lt_of_block Hbx8.out;have hz9:=(heap_setCell_same _ _ 2 _ _ (.int .i64 (n2:Int)) Hbx8.out).trans rfl;have hk9:Keeps (fun _=>False) W7 (w8.setCell ⟨b11,2,none⟩ (.int .i64 (n2:Int))):=Hk8.out.trans ((Keeps.setCell (S:=fun i=>i=b11) _ _ _ rfl).mono fun i _ e=> .inr (by have e':i=b11:=e;omega));obtain⟨Hz9,Hk9⟩:=hid2 hz9 hk9;clear hk9 hz9
     go_wp2_with fail
     go_meet
     exact⟨by first|rfl|trivial,Hz9.out,Hk9.out⟩
    ·have hltI:¬(n1:Int)<(n2:Int):=by omega
     rw [if_neg hlt] at htc;subst htc
     go_wp2_with fail
     go_meet
     exact⟨by first|rfl|trivial,Hbx8.out,Hk8.out⟩
   have Htc:=Lib.hid htc;clear htc;obtain⟨rfl,hbxz,hkz⟩:=hcut;have hA2:=HA.out.keep0 hkz;obtain⟨nI,hnI⟩:∃n,x.I.length=n:=⟨_,rfl⟩;obtain⟨ai,ci,hvi,_,_⟩:=Aj H.out.iss;rw [hnI] at hvi;have hnI1:nI≤300:=by
    have:nI=n1:=by rw [←hnI,←Hn1'.out,←H.out.ok.il,←H.out.is,List.length_map]
    omega
   have htS:∀W,Keeps (fun _=>False) wc W→t12S B (.slice ai nI ci) (.slice adn n1 cn) W:=fun W hW=>by
    have:=t12S.of hA2 hW;rw [hvi,Hvn.out] at this;exact this
   have hbl2:=lt_of_block hA2.blk;clear c15 hblc;have hvi':=hvi;obtain⟨Hbxz,Hkz,HA2,HnI,Hvi,HtS⟩:=hid6 hbxz hkz hA2 hnI hvi htS;clear htS hvi hnI hA2 hkz hbxz;obtain⟨ad9,had9⟩:∃x,x=(if co=n1 then ao else Option.map (fun x=>x.add (n1*9)) ao):=⟨_,rfl⟩;have hst9:StmsR wc ad9 (n2-n1) (co-n1) (P.drop n1):=by
    rw [had9];exact drop_stms (⟨by rw [←Hn2.out];exact(Reads.Bh G.out.out).keeps Hkz.out (by simp),fun y hy=>(Reads.Bh (G.out.ln y hy)).keeps Hkz.out (by simp),Hll.out,Hn2.out⟩:StmsR wc ao n2 co P) hmo
   have hown:=fun W (hW:Keeps (fun _=>False) wc W)=>accOwn_any ad9 (co-n1) (n2-n1) (P.drop n1) W (hst9.keep hW) (by omega);obtain⟨Hst9,Hown⟩:=hid2 hst9 hown;clear hown hst9
   go_upto_region 12 with fail
   refine Ce (t12S B (.slice ai nI ci) (.slice adn n1 cn)) 16 (.take 0 (.take 1 (.take 2 (.take 3 (.take 4 (.take 5 (.take 6 (.take 7 (.take 8 (.take 9 (.take 10 (.take 11 (.move 12 (.move 13 (.move 14 (.move 15 (.move 16 .done))))))))))))))))) (by kernel_rfl) (by kernel_rfl) ?_ ?_
   ·exact HtS.out _ (Keeps.drew _)
   intro w9 hs9 hk9
   repeat ((first|refine Ai rfl (by rfl) ?_|refine Af rfl (by rfl) ?_|(refine Ah (v:= ?_) rfl (by rfl) ?_ ?_;rotate_left;(· intro w' hSw;unfold t12S at hSw;go_simp;(try with_reducible rfl));rotate_right));try simp only [aps])
   rw [←had9];clear had9;refine Ak rfl (fun K hK=> ?_)
   go_simp
   go_at_call 46
   ((with_reducible refine(Hown.out w9 hk9).mono ?_);rintro e w10 hg)
   obtain⟨v10,Q,rfl,hp,hq⟩:=hg;dsimp only;have hk10:=Keeps.nt hk9 hp.fr.1;refine hK.out _ _ (by exact HtS.out _ hk10) ?_;clear hK K
   try simp only [aps]
   obtain⟨aq,cq,rfl,_,_⟩:=Aj hp.row;obtain⟨nq,hnq⟩:∃n,Q.length=n:=⟨_,rfl⟩;have hnq1:nq≤300:=by
    have:nq=n2-n1:=by rw [←hnq];have:=congrArg List.length hq;simpa [Hn2.out] using this
    omega
   have hA3:=HA2.out.keep0 hk10;have hrowI:=hA3.iss;rw [hvi',HnI.out] at hrowI;have hrdQ:=Reads.Bh hp.row;rw [hnq] at hrdQ⊢;have hbxA:=Ad Hbxz.out hk10 (by simp);have hbx7A:=Ad Hbx7.out (Hkz.out.nt hk10) (by simp);have hb7A:=Ad Hb7'.out (Hkz.out.nt hk10) (by simp);have hkz10:=Hkz.out.nt hk10;have hqlf:∀y∈Q,∀b,y.v.ownBlock=some b→W2.heap.size≤b:=fun y hy b hb=>by have h1:=hp.lf y hy b hb;have h2:=(Hk7.out.nt (Hkz.out.nt hk9)).size;omega
   have hqln:=hp.ln;have hone:=SV.one Q;have hl3:=lt_of_block hA3.blk;clear hp hs9 hk9;obtain⟨Hq,Hnq,HbxA,Hbx7A,Hb7A,Hkz10,Hqlf,Hqln,Hone⟩:=hid9 hq hnq hbxA hbx7A hb7A hkz10 hqlf hqln hone;clear hone hqln hqlf hkz10 hb7A hbx7A hbxA hnq hq;obtain⟨HA3,HrdQ,HrowI⟩:=hid3 hA3 hrdQ hrowI;clear hrowI hrdQ hA3
   repeat ((first|refine Ai rfl (by rfl) ?_|refine Af rfl (by rfl) ?_|(refine Ah (v:= ?_) rfl (by rfl) ?_ ?_;rotate_left;(· intro w' hSw;unfold t12S at hSw;go_simp;(try with_reducible rfl));rotate_right));try simp only [aps])
   refine Ak rfl (fun K hK=> ?_);refine Bt rfl (.tmp 83) (.tmp 91) 58 rfl 0 42 i0 _ 9 88 Tryz.underlying58 Hi.out Hi0.out Hi1.out Hi2.out rfl (by decide) (.slice ai nI ci) nI _ rfl HrowI.out _ nq _ rfl HrdQ.out Hone.out (by unfold maxLen;omega) (by omega) (Nat.zero_le _) ?_;intro v14 w14 hown14 hk14 hf14;obtain⟨a14,c14,rfl,_,_⟩:=Aj hown14;have hnB14:¬(Value.slice ai nI ci).ownBlock=some B:=fun e=>HA3.out.si B (by rw [hvi'];exact e) (.inl rfl);have hb14:=Ad HA3.out.blk hk14 hnB14;obtain⟨oc,o16⟩:∃v,w14.cell? ⟨B,16,none⟩=some v:=⟨_,(Aa hb14 16).trans rfl⟩;have of16:=Ab hb14 16;have ol16:=lt_of_block hb14;refine hK.out _ _ (by exact(HtS.out _ hk10).keepS hk14 hnB14) ?_;clear hK K
   try simp only [aps]
   obtain⟨Hb14,Hown14,Hk14,Hf14,Hk10⟩:=hid5 hb14 hown14 hk14 hf14 hk10;clear hk10 hf14 hk14 hown14 hb14
   repeat (refine Cx (v:= ?_) rfl (by rfl) ?_ ?_;rotate_left;(· intro w' hSw;unfold t12S at hSw;go_simp;(try with_reducible rfl));rotate_right;try simp only [aps])
   refine Cr rfl (fun K hK=> ?_)
   go_simp
   refine hK.out _ _ ?_;clear hK K
   try simp only [aps]
   refine Aw ?_;obtain⟨sq,hsq⟩:∃s,a.seq=s:=⟨_,rfl⟩;have hs0:=H.out.ok.s0;rw [hsq] at hs hs0;have q1:IntKind.i64.wrap (td+d)=td+d:=IntWalk.i64_in _ ⟨by omega,by omega⟩;have q2:IntKind.i64.wrap (sq+1)=sq+1:=IntWalk.i64_in _ ⟨by omega,by omega⟩;obtain⟨W17,hW17⟩:∃W,W=w14.setCell ⟨B,16,none⟩ (.slice a14 (nI+nq) c14):=⟨_,rfl⟩;have k17:Keeps (fun i=>i=B) w14 W17:=by rw [hW17];exact(Keeps.refl _ _).setB _ _
   have hb17:W17.heap[B]?=some (.cells #[.int .i64 a.t.limit,x.vt,.int .i64 a.t.cyc,.int .i64 a.t.due,.int .i64 a.t.minFixed,.int .i64 a.t.minPart,.int .i64 a.t.start,.int .i64 td,.int .i64 sq,(.pointer (some ⟨x.bl,0,none⟩)),(.pointer (some ⟨x.bb,0,none⟩)),x.vp,.int .i64 a.s.p.cr,.int .i64 a.s.p.du,x.vr,x.vn,.slice a14 (nI+nq) c14,x.va] 89 (0,0)):=by rw [hW17,←hsq,←Htd.out];exact heap_setCell_same _ _ 16 _ _ (.slice a14 (nI+nq) c14) Hb14.out
   rw [←hW17];clear hW17 ol16 of16 o16;have hvilt:∀b,x.vi.ownBlock=some b→b<w.heap.size:=fun b hb=>rowLt H.out.iss hb;have hsz2:=Hkw2.out.size;have hb7B:¬b7=B:=fun e=>by have:=HBl.out;omega
   have hBb7:¬B=b7:=fun e=>hb7B e.symm;have hW7l:=Hk7.out.size;have hwl:=Hk0.out.size;have hRB:¬w.heap.size=B:=fun e=>by omega
   have hb11B:¬b11=B:=fun e=>by have:=HBl.out;omega
   have hx7:=Ad (Ad Hbx7A.out Hk14.out (fun e=>by have:=hvilt b7 (by rw [hvi'];exact e);omega)) k17 hb7B;have hx11:=Ad (Ad HbxA.out Hk14.out (fun e=>by have:=hvilt b11 (by rw [hvi'];exact e);omega)) k17 hb11B;have hxR:=Ad (Ad Hb7A.out Hk14.out (fun e=>by have:=hvilt _ (by rw [hvi'];exact e);omega)) k17 hRB;have p0:=Aa hx7 0;have p1:=Aa hx7 1;have p2:=Aa hx7 2;have pl:=lt_of_block hx7;have d7:=Aa hb17 7;have d8:=Aa hb17 8;have d11:=Aa hb17 11;have d12:=Aa hb17 12;have d13:=Aa hb17 13;have d14:=Aa hb17 14;have d15:=Aa hb17 15;have f7:=Ab hb17 7;have f8:=Ab hb17 8;have f11:=Ab hb17 11;have f12:=Ab hb17 12;have f13:=Ab hb17 13;have f14:=Ab hb17 14;have f15:=Ab hb17 15;have fl:=lt_of_block hb17;have g1:=heap_setCell_same _ _ 7 _ _ (.int .i64 (td+d)) hb17;have g2:=heap_setCell_same _ _ 11 _ _ (.slice av mv cv) g1;have g3:=heap_setCell_same _ _ 12 _ _ (.int .i64 Z.1.p.cr) g2;have g4:=heap_setCell_same _ _ 13 _ _ (.int .i64 Z.1.p.du) g3;have g5:=heap_setCell_same _ _ 14 _ _ (.slice ar n cr2) g4;have g6:=heap_setCell_same _ _ 15 _ _ (.slice ao n2 co) g5;have g7:=heap_setCell_same _ _ 8 _ _ (.int .i64 (sq+1)) g6;obtain⟨Wf,hWf⟩:∃W,W=((((((W17.setCell ⟨B,7,none⟩ (.int .i64 (td+d))).setCell ⟨B,11,none⟩ (.slice av mv cv)).setCell ⟨B,12,none⟩ (.int .i64 Z.1.p.cr)).setCell ⟨B,13,none⟩ (.int .i64 Z.1.p.du)).setCell ⟨B,14,none⟩ (.slice ar n cr2)).setCell ⟨B,15,none⟩ (.slice ao n2 co)).setCell ⟨B,8,none⟩ (.int .i64 (sq+1)):=⟨_,rfl⟩;have kf:Keeps (fun i=>i=B) W17 Wf:=by rw [hWf];exact(((((((Keeps.refl _ _).setB _ _).setB _ _).setB _ _).setB _ _).setB _ _).setB _ _).setB _ _
   rw [←hWf] at g7;have hgf:Wf.heap[B]?=some (.cells #[.int .i64 a.t.limit,x.vt,.int .i64 a.t.cyc,.int .i64 a.t.due,.int .i64 a.t.minFixed,.int .i64 a.t.minPart,.int .i64 a.t.start,.int .i64 (td+d),.int .i64 (sq+1),(.pointer (some ⟨x.bl,0,none⟩)),(.pointer (some ⟨x.bb,0,none⟩)),.slice av mv cv,.int .i64 Z.1.p.cr,.int .i64 Z.1.p.du,.slice ar n cr2,.slice ao n2 co,.slice a14 (nI+nq) c14,x.va] 89 (0,0)):=g7;have hx11f:=Ad hx11 kf hb11B;have hxRf:=Ad hxR kf hRB;have kR:=Ca Wf w.heap.size #[.int .i64 0,.int .i64 0,.int .i64 tcv,.int .i64 0,.int .i64 0,.slice none 0 0,.int .i64 0,.int .i64 0,.slice none 0 0,.slice none 0 0,.int .i64 0,.int .i64 0,.int .i64 0,.int .i64 0,.int .i64 0,.slice none 0 0,.int .i64 0,.int .i64 0,.int .i64 0,.bool false];have hxF:=setRow_heap Wf w.heap.size #[.int .i64 0,.int .i64 0,.int .i64 0,.int .i64 0,.int .i64 0,.slice none 0 0,.int .i64 0,.int .i64 0,.slice none 0 0,.slice none 0 0,.int .i64 0,.int .i64 0,.int .i64 0,.int .i64 0,.int .i64 0,.slice none 0 0,.int .i64 0,.int .i64 0,.int .i64 0,.bool false] #[.int .i64 0,.int .i64 0,.int .i64 tcv,.int .i64 0,.int .i64 0,.slice none 0 0,.int .i64 0,.int .i64 0,.slice none 0 0,.slice none 0 0,.int .i64 0,.int .i64 0,.int .i64 0,.int .i64 0,.int .i64 0,.slice none 0 0,.int .i64 0,.int .i64 0,.int .i64 0,.bool false] 44 _ hxRf;have hvi14:∀b,(Value.slice a14 (nI+nq) c14).ownBlock=some b→x.vi.ownBlock=some b∨w10.heap.size≤b:=fun b hb=>by
    rcases Hf14.out with h1|⟨g',h1,h2⟩
    ·rw [h1] at hb;exact .inl (by rw [hvi'];exact hb)
    ·rw [h1] at hb;simp only [Option.some.injEq] at hb;exact .inr (by omega)
   have hw10l:W2.heap.size≤w10.heap.size:=(Hk7.out.nt Hkz10.out).size;have hKf:Keeps (TkS B x w W2) w10 (Wf.setRow w.heap.size #[.int .i64 0,.int .i64 0,.int .i64 tcv,.int .i64 0,.int .i64 0,.slice none 0 0,.int .i64 0,.int .i64 0,.slice none 0 0,.slice none 0 0,.int .i64 0,.int .i64 0,.int .i64 0,.int .i64 0,.int .i64 0,.slice none 0 0,.int .i64 0,.int .i64 0,.int .i64 0,.bool false]):=(((Hk14.out.mono fun i _ e=> .inl (.inr (by rw [hvi'];exact e))).trans (k17.mono fun i _ e=> .inl (.inl (.inl e)))).trans (kf.mono fun i _ e=> .inl (.inl (.inl e)))).trans (kR.mono fun i _ e=> .inl (.inr ⟨by have e':i=w.heap.size:=e;omega,by have e':i=w.heap.size:=e;have:=lt_of_block Hb2.out;omega⟩));have hri:(Wf.setRow w.heap.size #[.int .i64 0,.int .i64 0,.int .i64 tcv,.int .i64 0,.int .i64 0,.slice none 0 0,.int .i64 0,.int .i64 0,.slice none 0 0,.slice none 0 0,.int .i64 0,.int .i64 0,.int .i64 0,.int .i64 0,.int .i64 0,.slice none 0 0,.int .i64 0,.int .i64 0,.int .i64 0,.bool false]).ownsRow 0 42 9 (.slice a14 (nI+nq) c14) (x.I++Q).length ((x.I++Q).flatMap SV.cells):=by
    rw [List.length_append,HnI.out,Hnq.out,List.flatMap_append];refine kR.row (kf.row (k17.row Hown14.out fun b hb e=> ?_) fun b hb e=> ?_) fun b hb e=> ?_
    ·exact jY14
    ·exact jY14
    ·have e':b=w.heap.size:=e;have:=lt_of_block Hb2.out;rcases hvi14 b hb with h1|h1
     ·have:=hvilt b h1;omega
     ·omega
   have hpost:=AcAt.ticked (d:=d) H.out (Hkw7.out.nt Hkz10.out) Hkw2.out (Hk7.out.nt Hkz10.out) hKf (by rw [Ht.out];exact HN.out) (by rw [Ht.out,HL1.out,Htd.out];exact HZ.out) Hz7.out (G.out.keep0 Hkz10.out) (by rw [Hn1'.out,Hn2'.out];exact hmo) (by rw [Hq.out,List.map_drop,G.out.lp,Hn1'.out]) Hqln.out Hqlf.out (by rw [Htd.out,hsq,Hn2.out];exact Ad hgf kR (fun e=>hRB e.symm)) hri (Nat.le_refl _) hvi14;clear g1 g2 g3 g4 g5 g6 g7 hKf hri hvi14 hvilt;obtain⟨Hsq,K17,Hb17,Hx7,Hx11,HxR,Kf,Hgf,Hx11f⟩:=hid9 hsq k17 hb17 hx7 hx11 hxR kf hgf hx11f;clear hx11f hgf kf hxR hx11 hx7 hb17 k17 hsq;obtain⟨HxRf,KR,HxF,Hpost,HRB,Hb11B⟩:=hid6 hxRf kR hxF hpost hRB hb11B;clear hb11B hRB hpost hxF kR hxRf;have hc1:=Hte.out;have hc2:=Htk.out;have hc3:=Htcv.out;obtain⟨Hc1,Hc2,Hc3⟩:=hid3 hc1 hc2 hc3;clear hc3 hc2 hc1
   go_upto_region 16 with fail
   rw [←hWf];clear hWf p0 p1 p2 pl d7 d8 d11 d12 d13 d14 d15 f7 f8 f11 f12 f13 f14 f15 fl q1 q2
   go_wp2_with (first|(refine wpList_store_row (o:=⟨none,_,_,_,_,_⟩) rfl 44 (.tmp 4) (.tmp 122) rfl w.heap.size #[.int .i64 0,.int .i64 0,.int .i64 tcv,.int .i64 0,.int .i64 0,.slice none 0 0,.int .i64 0,.int .i64 0,.slice none 0 0,.slice none 0 0,.int .i64 0,.int .i64 0,.int .i64 0,.int .i64 0,.int .i64 0,.slice none 0 0,.int .i64 0,.int .i64 0,.int .i64 0,.bool false] rfl rfl 44 #[.int .i64 0,.int .i64 0,.int .i64 0,.int .i64 0,.int .i64 0,.slice none 0 0,.int .i64 0,.int .i64 0,.slice none 0 0,.slice none 0 0,.int .i64 0,.int .i64 0,.int .i64 0,.int .i64 0,.int .i64 0,.slice none 0 0,.int .i64 0,.int .i64 0,.int .i64 0,.bool false] HxRf.out Ar rfl (Br 0 0 tcv) ?_)|(refine wpList_load_row (o:=⟨some 122,_,_,_,_,_⟩) rfl 44 (.tmp 11) rfl b11 rfl 44 #[.int .i64 0,.int .i64 0,.int .i64 tcv,.int .i64 0,.int .i64 0,.slice none 0 0,.int .i64 0,.int .i64 0,.slice none 0 0,.slice none 0 0,.int .i64 0,.int .i64 0,.int .i64 0,.int .i64 0,.int .i64 0,.slice none 0 0,.int .i64 0,.int .i64 0,.int .i64 0,.bool false] _ _ Hx11f.out Tryz.underlying44 rfl Ar ?_))
   exact bodyPost_ret (results_cell_row rfl _ _ w.heap.size 44 #[.int .i64 0,.int .i64 0,.int .i64 tcv,.int .i64 0,.int .i64 0,.slice none 0 0,.int .i64 0,.int .i64 0,.slice none 0 0,.slice none 0 0,.int .i64 0,.int .i64 0,.int .i64 0,.int .i64 0,.int .i64 0,.slice none 0 0,.int .i64 0,.int .i64 0,.int .i64 0,.bool false] _ _ rfl HxF.out Tryz.underlying44 rfl Ar) rfl ⟨by rw [Hc1.out,Hc3.out],by rw [Hc2.out];exact Hpost.out⟩
 ·have hne:(z1 !=0)=true:=by simp [h0]
  have hc:=te_day (a:=a) Hd.out (by rw [Hst.out,Hcd.out,Htd.out,Hz1.out];exact h0);clear q1;obtain⟨Hc,H0⟩:=hid2 hc h0;clear h0 hc
  go_wp2_with fail
  refine(Cb 10 _).mono ?_;rintro e w3 ⟨rfl,hk3⟩;have hb3:=Ad Hb2.out hk3 (by simp);have hk03:=Hk02.out.nt hk3;clear hk3;obtain⟨Hb3,Hk03⟩:=hid2 hb3 hk03;clear hk03 hb3;obtain⟨hput1,hput2⟩:=putRow (V:= #[.int .i64 10,.int .i64 0,.int .i64 0,.int .i64 0,.int .i64 0,.slice none 0 0,.int .i64 0,.int .i64 0,.slice none 0 0,.slice none 0 0,.int .i64 0,.int .i64 0,.int .i64 0,.int .i64 0,.int .i64 0,.slice none 0 0,.int .i64 0,.int .i64 0,.int .i64 0,.bool false]) Hb3.out Hk03.out (Nat.le_refl _);obtain⟨Hput1,Hput2⟩:=hid2 hput1 hput2;clear hput2 hput1
  go_wp2_with (refine wpList_store_row rfl 44 (.tmp 4) (.tmp 41) rfl w.heap.size #[.int .i64 10,.int .i64 0,.int .i64 0,.int .i64 0,.int .i64 0,.slice none 0 0,.int .i64 0,.int .i64 0,.slice none 0 0,.slice none 0 0,.int .i64 0,.int .i64 0,.int .i64 0,.int .i64 0,.int .i64 0,.slice none 0 0,.int .i64 0,.int .i64 0,.int .i64 0,.bool false] rfl rfl 44 #[.int .i64 0,.int .i64 0,.int .i64 0,.int .i64 0,.int .i64 0,.slice none 0 0,.int .i64 0,.int .i64 0,.slice none 0 0,.slice none 0 0,.int .i64 0,.int .i64 0,.int .i64 0,.int .i64 0,.int .i64 0,.slice none 0 0,.int .i64 0,.int .i64 0,.int .i64 0,.bool false] Hb3.out Ar rfl (Br 10 0 0) ?_)
  exact bodyPost_ret (results_cell_row rfl _ _ w.heap.size 44 #[.int .i64 10,.int .i64 0,.int .i64 0,.int .i64 0,.int .i64 0,.slice none 0 0,.int .i64 0,.int .i64 0,.slice none 0 0,.slice none 0 0,.int .i64 0,.int .i64 0,.int .i64 0,.int .i64 0,.int .i64 0,.slice none 0 0,.int .i64 0,.int .i64 0,.int .i64 0,.bool false] _ _ rfl Hput1.out Tryz.underlying44 rfl Ar) rfl ⟨by rw [Hc.out.1,Hc.out.2.1],by rw [Hc.out.2.2];exact AcPost.same H.out Hput2.out⟩
end Go.Proofs.YthffbjldpfionaaGreat
