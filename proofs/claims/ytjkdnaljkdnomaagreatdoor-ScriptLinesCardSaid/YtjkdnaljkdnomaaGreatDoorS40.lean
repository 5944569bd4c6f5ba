/- Part 40 of what the laws of this seat share: walks of functions, and plain laws. -/
import Derived.Test.YtjkdnaljkdnomaaGreatDoorS39
set_option maxRecDepth 100000
set_option maxHeartbeats 3200000
namespace Go.Proofs.YtjkdnaljkdnomaaGreatDoor
open Go.RowKit Go.IntWalk
def Tm.nums(t:Tm):List Int:= [t.limit,t.cyc,t.due,t.minFixed,t.minPart,t.start,t.trs.length]
def tnB(x:Tn):List Int:=eight x.rate++ [if x.grace then 1 else 0]
def Gj(t:Tm):List Int:=packN t.nums++t.trs.flatMap tnB
theorem tnB_len(L:List Tn):(L.flatMap tnB).length=9*L.length:=by
 induction L with
 |nil=>rfl
 |cons a l ih=>rw [List.flatMap_cons,List.length_append,ih];simp [tnB,De];omega
structure NB(w W:World)(v:Value)(B:List Int):Prop where
 row:W.ownsRow 0 5 1 v B.length (B.flatMap u8c)
 kp:K0 w W
 nw:∀g,v.ownBlock=some g->w.heap.size<=g
theorem NB.put{w W W':World}{v v':Value}{B C:List Int}(h:NB w W v B)(hg:Grown W W' v v' C):NB w W' v' C:=
 ⟨hg.row,h.kp.trans (hg.kp.mono λk _ e=> .inr (h.nw k e)),λg e=>by
  rcases hg.nw with e'|⟨g',e',hh⟩
  ·exact h.nw g (by rw [<-e'];exact e)
  ·rw [e] at e';have:=Option.some.inj e';have:=h.kp.size;omega⟩
theorem NB.keep{w W W':World}{v:Value}{B:List Int}(h:NB w W v B)(hk:K0 W W'):NB w W' v B:=⟨hk.row h.row (λ_ _ h=>h),Keeps.nt h.kp hk,h.nw⟩
theorem Aa7{t:Tm}(h:t.err=0):1<=t.trs.length/\t.trs.length<=8:=by
 unfold Tm.err at h;by_cases hk:t.okB=true
 ·simp only [Tm.okB,Bool.and_eq_true,inB,decide_eq_true_eq] at hk;omega
 ·rw [if_neg hk] at h;exact absurd h j7
theorem NB.row'{w W:World}{v:Value}{B:List Int}(h:NB w W v B){n:Nat}(hn:B.length=n):W.ownsRow 0 5 1 v n (B.flatMap u8c):=by rw [<-hn];exact h.row
theorem Vo(t:Tm)(ad:Option Addr)(cap:Nat)(w:World)(hr:Reads w 2 (.slice ad t.trs.length cap) t.trs.length (t.trs.flatMap Tn.cells))(hl:t.trs.length<=1000000):
  Calls Tryz.prog 20 #[t.val (.slice ad t.trs.length cap)] w λe w'=>∃v,e= .returned (.tuple #[v,.int .i64 t.err])/\NB w w' v (if t.err=0 then Gj t else []):=by
 obtain⟨n,hn⟩:=eX t.trs.length;obtain⟨w1,hw1⟩:=eY (w.alloc (.cells #[.int .i64 t.limit,.slice ad n cap,.int .i64 t.cyc,.int .i64 t.due,.int .i64 t.minFixed,.int .i64 t.minPart,.int .i64 t.start] 26));have hk1:K0 w w1:=by rw [hw1];exact Keeps.alloc _ _
 have hb1:w1.heap[w.heap.size]?=some (.cells #[.int .i64 t.limit,.slice ad n cap,.int .i64 t.cyc,.int .i64 t.due,.int .i64 t.minFixed,.int .i64 t.minPart,.int .i64 t.start] 26 (0,0)):=by rw [hw1];exact heap_alloc_new w _
 have hright:=Jj t ad cap w1 (hr.keeps hk1 (λ_ _ h=>h)) hl;rw [hn] at hr hl hright⊢;simp only [Tm.val] at hright⊢;by_cases he:t.err=0
 ·obtain⟨l1,l2⟩:=Aa7 he;rw [hn] at l1 l2;rw [if_pos he,he];rw [he] at hright
  have hhead:∀w2,K0 w w2->Calls Tryz.prog 41 #[.slice none 0 0,.slice (some ⟨w2.heap.size,0,none⟩) 7 7] (w2.alloc (.cells #[.int .i64 t.limit,.int .i64 t.cyc,.int .i64 t.due,.int .i64 t.minFixed,.int .i64 t.minPart,.int .i64 t.start,.int .i64 n] 2)) λe w'=>∃v',e= .returned v'/\NB w w' v' (packN t.nums)/\K0 w2 w':=by
   intro w2 hk2;have h7:=Reads.lit w2 #[.int .i64 t.limit,.int .i64 t.cyc,.int .i64 t.due,.int .i64 t.minFixed,.int .i64 t.minPart,.int .i64 t.start,.int .i64 n] 2 1 7 rfl;have hp:=Lm (.slice none 0 0) [] (some ⟨w2.heap.size,0,none⟩) 7 t.nums (w2.alloc (.cells #[.int .i64 t.limit,.int .i64 t.cyc,.int .i64 t.due,.int .i64 t.minFixed,.int .i64 t.minPart,.int .i64 t.start,.int .i64 n] 2)) (World.ownsRow_nil _ _ _ _) (by simpa [Tm.nums,i64c,hn] using h7) (by simp [Value.ownBlock]) (by simp [Tm.nums]);refine hp.mono ?_;rintro e w' ⟨v',rfl,hg⟩;rw [List.nil_append] at hg;exact⟨v',rfl,NB.put (B:= []) ⟨World.ownsRow_nil _ _ _ _,Keeps.nt hk2 (Keeps.alloc _ _),by simp [Value.ownBlock]⟩ hg,Keeps.nt (Keeps.alloc _ _) (hg.kp.mono λk _ e=>by simp [Value.ownBlock] at e)⟩
  obtain⟨i0,hi,hi0,hi1,hi2⟩:=info_parts Kr;obtain⟨H0,hH⟩:=eX (packN t.nums);have hHl:H0.length=56:=by rw [<-hH,Pw];rfl
  rw [hH] at hhead;have htp:Gj t=H0++t.trs.flatMap tnB:=by unfold Gj;rw [hH]
  obtain⟨Hw1,Hk1,Hb1,Hright,Hr,Hn,Hhead,Hi,Hi0⟩:=hid9 hw1 hk1 hb1 hright hr hn hhead hi hi0;clear hi0 hi hhead hn hr hright hb1 hk1 hw1;obtain⟨Hi1,Hi2⟩:=hid2 hi1 hi2;clear hi2 hi1 hH;obtain⟨HHl,Htp⟩:=hid2 hHl htp;clear htp hHl;go_enter Tryz.func20,Tryz.ntmps20
  go_wp2_with (first|(go_at_call 40;rw [<-Hw1.o];(with_reducible refine Hright.o.mono ?_);rintro e w2 ⟨rfl,hk2⟩;have hb2:=Ad Hb1.o hk2 (by simp);have c0:=Aa hb2 0;have c1:=Aa hb2 1;have c2:=Aa hb2 2;have c3:=Aa hb2 3;have c4:=Aa hb2 4;have c5:=Aa hb2 5;have c6:=Aa hb2 6;have Hkw2:=Lib.hid (Keeps.nt Hk1.o hk2);have Hb2:=Lib.hid hb2;clear hb2 hk2)|(go_at_call 41;(with_reducible refine(Hhead.o _ Hkw2.o).mono ?_);rintro e w3 ⟨v3,rfl,hnb3,hk3⟩;have d1:=Aa (Ad Hb2.o hk3 (by simp)) 1;clear hk3;have Hnb3:=Lib.hid hnb3;clear hnb3))
  go_loopw [5,33] (λb c wr=>∃(k:Nat) (v:Value),k<=n/\c= .int .i64 k/\b=v/\NB w wr v (H0++(t.trs.take k).flatMap tnB)) (λ_ c _=>n-(intOf c).toNat)
  case atStart=>exact⟨0,v3,Nat.zero_le _,rfl,rfl,by simpa using Hnb3.o⟩
  case round=>
   obtain⟨k,v,hk,rfl,hbv,hnb⟩:=hrel;obtain rfl:=hbv.symm;by_cases hkn:k<n
   ·have hknI:(k:Int)<(n:Int):=j8;obtain⟨⟨xr,xg⟩,hx⟩:=Ar (L:=t.trs) (k:=k) (by rw [Hn.o];exact hkn);obtain⟨g,o,c,he',hc⟩:=(Hr.o.keeps hnb.kp (by simp)).elem Tn.Aj hx j7;simp only [Value.slice.injEq,true_and] at he';obtain⟨rfl,rfl⟩:=he';have x0:wr.cell? ⟨g,o+k*2,none⟩=some (.int .i64 xr):=hc 0 j7;have x1:wr.cell? ⟨g,o+k*2+1,none⟩=some (.bool xg):=hc 1 j7;clear hc;obtain⟨C,hC⟩:=eX (H0++(t.trs.take k).flatMap tnB)
    have hCl:C.length<=1000:=by
     rw [<-hC,List.length_append,HHl.o,tnB_len,List.length_take];omega
    have hC2:H0++(t.trs.take (k+1)).flatMap tnB=C++eight xr++ [if xg then 1 else 0]:=by
     rw [take_snoc' hx,List.flatMap_append,<-List.append_assoc,hC];simp [tnB]
    rw [hC] at hnb
    have hpw:∀W,K0 wr W->Calls Tryz.prog 41 #[v,.slice (some ⟨W.heap.size,0,none⟩) 1 1] (W.alloc (.cells #[.int .i64 xr] 2)) λe w'=>∃a' c',e= .returned (.slice a' (C.length+8) c')/\NB w w' (.slice a' (C.length+8) c') (C++eight xr)/\Keeps (λi=>v.ownBlock=some i) W w':=by
     intro W hW;have h1:=Reads.lit W #[.int .i64 xr] 2 1 1 rfl;have hnW:=(hnb.keep hW).keep (Keeps.alloc W (.cells #[.int .i64 xr] 2))
     have hp:=Lm v C (some ⟨W.heap.size,0,none⟩) 1 [xr] (W.alloc (.cells #[.int .i64 xr] 2)) hnW.row (by simpa [i64c] using h1) (by
      intro g hg e;have hg':W.heap.size=g:=Option.some.inj hg;have:=(hnb.row.lt g e).2;have:=hW.size
      omega) (by simp;omega)
     refine hp.mono ?_;rintro e w' ⟨v',rfl,hg⟩;have hnn:=hnW.put hg;rw [show packN [xr]=eight xr by simp [packN]] at hnn;obtain⟨a',c',rfl,_⟩:=Ae hnn.row;rw [List.length_append,De] at *;exact⟨a',c',rfl,hnn,(Keeps.alloc (S:=λi=>v.ownBlock=some i) _ _).trans (hg.kp.mono λi _ e=> .inl e)⟩
    have hpw2:=hpw (wr.alloc (.cells #[.int .i64 xr,.bool xg] 39)) (Keeps.alloc _ _);rw [show(wr.alloc (.cells #[.int .i64 xr,.bool xg] 39)).heap.size=wr.heap.size+1 by simp] at hpw2;have hbx:=heap_alloc_new wr (.cells #[.int .i64 xr,.bool xg] 39);clear hpw;have hvb:∀i,v.ownBlock=some i->¬i=wr.heap.size:=λi hi e=>by have:=(hnb.row.lt i hi).2;omega
    have Hnb:=Lib.hid hnb;clear hnb hx hC;obtain⟨HC2,Hpw2,Hbx,Hvb⟩:=hid4 hC2 hpw2 hbx hvb;clear hvb hbx hpw2 hC2
    cases xg
    ·
     go_wp2_with (first|(go_at_call 41;(with_reducible refine Hpw2.o.mono ?_);rintro e w4 ⟨a4,cp4,rfl,hnb4,hk4⟩;have hb4:=Aa ((hk4.block _ (by simp) (λe=>Hvb.o _ e rfl)).trans Hbx.o) 1;have Hnb4:=Lib.hid hnb4;clear hnb4 hk4)|(at_builtin;refine Am rfl (.tmp 47) (.tmp 48) 22 rfl 0 5 i0 _ 1 1 Tryz.underlying22 Hi.o Hi0.o Hi1.o Hi2.o rfl j7 (.slice a4 (C.length+8) cp4) (C.length+8) _ rfl ((Hnb4.o.keep (Keeps.alloc _ _)).row' (by simp [De])) _ 1 _ rfl (Reads.lit _ _ _ _ _ rfl) jf jd j6 j6 ?_;intro v5 w5 hown5 hk5 hf5))
     have hg5:=(Grown.refl Hnb4.o.row).app (z:=0) rfl (by simp [De]) hown5 hk5 (by simpa using hf5);exact j4K
    ·
     go_wp2_with (first|(go_at_call 41;(with_reducible refine Hpw2.o.mono ?_);rintro e w4 ⟨a4,cp4,rfl,hnb4,hk4⟩;have hb4:=Aa ((hk4.block _ (by simp) (λe=>Hvb.o _ e rfl)).trans Hbx.o) 1;have Hnb4:=Lib.hid hnb4;clear hnb4 hk4)|(at_builtin;refine Am rfl (.tmp 44) (.tmp 45) 22 rfl 0 5 i0 _ 1 1 Tryz.underlying22 Hi.o Hi0.o Hi1.o Hi2.o rfl j7 (.slice a4 (C.length+8) cp4) (C.length+8) _ rfl ((Hnb4.o.keep (Keeps.alloc _ _)).row' (by simp [De])) _ 1 _ rfl (Reads.lit _ _ _ _ _ rfl) jf jd j6 j6 ?_;intro v5 w5 hown5 hk5 hf5))
     have hg5:=(Grown.refl Hnb4.o.row).app (z:=1) rfl (by simp [De]) hown5 hk5 (by simpa using hf5);exact j4K
   ·obtain rfl:k=n:=by omega
    rw [<-Hn.o,List.take_length,<-Htp.o] at hnb;have Hnb:=Lib.hid hnb;clear hnb;go_wp2;exact bodyPost_ret (v:= .tuple #[v,.int .i64 0]) (by simp [results,Tryz.results20,go_sem]) rfl ⟨v,rfl,Hnb.o⟩
 ·have hz:(t.err !=0)=true:=by simp [he]
  obtain⟨z,hze⟩:=eX t.err;rw [if_neg he];rw [hze] at hz he hright⊢;obtain⟨Hw1,Hk1,Hb1,Hright,Hr⟩:=hid5 hw1 hk1 hb1 hright hr;clear hr hright hb1 hk1 hw1 hze;have Hn:=Lib.hid hn;clear hn;go_enter Tryz.func20,Tryz.ntmps20
  go_wp2_with (go_at_call 40;rw [<-Hw1.o];(with_reducible refine Hright.o.mono ?_);rintro e w2 ⟨rfl,hk2⟩;have Hk2:=Lib.hid hk2;clear hk2)
  exact bodyPost_ret (v:= .tuple #[.slice none 0 0,.int .i64 z]) (by simp [results,Tryz.results20,go_sem]) rfl ⟨_,rfl,World.ownsRow_nil _ _ _ _,Keeps.nt Hk1.o Hk2.o,by simp [Value.ownBlock]⟩
end Go.Proofs.YtjkdnaljkdnomaaGreatDoor
