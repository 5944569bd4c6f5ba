/- Part 6 of the proof of ReplayApplies: walks and plain laws. -/
import Derived.Test.YthcmpcekmkioaaaGreatReplayAppliesQ5
namespace Go.Proofs.YthcmpcekmkioaaaGreat
open Go.RowKit
set_option maxRecDepth 100000
set_option maxHeartbeats 3200000
theorem stableEv_any(f:Nat)(ok:Ev→Prop)(hc:CmpBy f ok)(n cap g:Nat)(L:List Ev)(w:World)(h:RowE w g n cap L)(hok:∀x∈L,ok x)(hn:n≤1000000):
  Calls Tryz.prog 116 #[.slice (some ⟨g,0,none⟩) n cap, .int .i64 n, .func (.func f) #[] #[]] w (MergePost L g n cap 0 n w):=by
 have hln:=h.2
 obtain⟨H,Hok,Hc⟩:=hid3 h hok hc;clear hc hok h
 go_enter Tryz.func116,Tryz.ntmps116
 go_wp2
 go_loopw [7,8] (fun x y wx=>∃(k:Nat) (X:List Ev),x= .int .i64 (20*k:Nat)∧y= .int .i64 (20*k+20:Nat)∧20*k≤n∧Turned L X 0 n∧(∀t,t<k→Upto X (20*t) (20*t+20))∧RowE wx g n cap X∧Keeps (fun i=>i=g) w wx) (fun x y _=>n+20-(intOf y).toNat)
 case atStart=>exact⟨0,L,rfl,rfl,by omega,Turned.refl _ _ _,fun t ht=>by omega,H.out,Keeps.refl _ _⟩
 case round=>
  obtain⟨k,X,rfl,rfl,hkn,ht,hb,hrow,hk⟩:=hrel
  obtain⟨a,ha⟩:∃a,20*k=a:=⟨_,rfl⟩
  obtain⟨b,hb'⟩:∃b,a+20=b:=⟨_,rfl⟩
  rw [ha,hb']
  rw [ha] at hkn
  by_cases hlt:b≤n
  ·have hltI:(b:Int)≤(n:Int):=by omega
   have hins:=inssEv_any f ok Hc.out a b n cap g X wr hrow (by omega) hlt (fun x hx=>Hok.out x (ht.alike.mem hx)) hn
   obtain⟨Ht,Hb,Hrow,Hk,Hins⟩:=hid5 ht hb hrow hk hins;clear hins hk hrow hb ht
   go_wp2_with (go_at_call 137;(with_reducible refine Hins.out.mono ?_);rintro e w1 ⟨rfl,Y,htY,huY,hrow1,hk1⟩;have HtY:=Lib.hid htY;have HuY:=Lib.hid huY;have Hrow1:=Lib.hid hrow1;have Hk1:=Lib.hid (Hk.out.same hk1);clear htY huY hrow1 hk1)
   go_roundw
   case rel=>
    refine⟨k+1,Y,by go_num,by go_num,by omega,Ht.out.trans (HtY.out.wide (Nat.zero_le _) hlt),fun t hk=> ?_,Hrow1.out,Hk1.out⟩
    by_cases he:t=k
    ·subst he;rw [show 20*t+20=b by omega,ha];exact HuY.out
    ·exact(Hb.out t (by omega)).eq fun i h1 h2=>HtY.out.out i (.inl (by omega))
   case measure=>simp [intOf];omega
  ·have hltI:¬(b:Int)≤(n:Int):=by omega
   have hins:=inssEv_any f ok Hc.out a n n cap g X wr hrow hkn (Nat.le_refl _) (fun x hx=>Hok.out x (ht.alike.mem hx)) hn
   have hblk:∀Y,Turned X Y a n→Upto Y a n→Blk 20 n Y:=fun Y htY huY t=>by
    rw [Nat.mul_comm t 20]
    rcases Nat.lt_trichotomy t k with h|h|h
    ·exact((hb t h).sub (Nat.le_refl _) (Nat.min_le_left _ _)).eq fun i h1 h2=>htY.out i (.inl (by omega))
    ·subst h;rw [ha];exact huY.sub (Nat.le_refl _) (Nat.min_le_right _ _)
    ·exact Upto.one (by omega)
   obtain⟨Ht,Hb,Hrow,Hk,Hins,Hblk⟩:=hid6 ht hb hrow hk hins hblk;clear hblk hins hk hrow hb ht
   go_wp2_with (go_at_call 137;(with_reducible refine Hins.out.mono ?_);rintro e w1 ⟨rfl,Y,htY,huY,hrow1,hk1⟩;have HtY:=Lib.hid (Ht.out.trans (htY.wide (Nat.zero_le _) (Nat.le_refl _)));have HbY:=Lib.hid (Hblk.out Y htY huY);have Hrow1:=Lib.hid hrow1;have Hk1:=Lib.hid (Hk.out.same hk1);clear htY huY hrow1 hk1)
   clear Hblk Hins Hrow Hk Hb
   go_loopw [6] (fun x wx=>∃(s:Nat) (X:List Ev),x= .int .i64 (s:Nat)∧0<s∧s≤2*n+20∧Turned L X 0 n∧Blk s n X∧RowE wx g n cap X∧Keeps (fun i=>i=g) w wx) (fun x _=>2*n+21-(intOf x).toNat)
   case atStart=>exact⟨20,Y,rfl,by omega,by omega,HtY.out,HbY.out,Hrow1.out,Hk1.out⟩
   case round=>
    obtain⟨s,X,rfl,hs0,hsn,ht,hb,hrow,hk⟩:=hrel
    obtain⟨W1,hW1⟩:∃x,x=wr:=⟨_,rfl⟩;subst hW1
    by_cases hlt:s<n
    ·have hltI:(s:Int)<(n:Int):=by omega
     have hb0:=hb.te
     obtain⟨Ht,Hb,Hrow,Hk,Hb0⟩:=hid5 ht hb hrow hk hb0;clear hb0 hk hrow hb ht
     go_wp2
     go_loopw [7,8] (fun x y wx=>∃(k a b:Nat) (X:List Ev),x= .int .i64 (a:Nat)∧y= .int .i64 (b:Nat)∧a=2*(k*s)∧b=a+2*s∧a≤n∧Turned L X 0 n∧BlkTo s n k X∧RowE wx g n cap X∧Keeps (fun i=>i=g) w wx) (fun x y _=>n+2*s-(intOf y).toNat)
     case atStart=>exact⟨0,0,2*s,X,by go_num,by go_num,by simp,by simp,by omega,Ht.out,Hb0.out,Hrow.out,Hk.out⟩
     case round=>
      obtain⟨k,a,b,X,rfl,rfl,ha,hb',han,ht,hb,hrow,hk⟩:=hrel
      have hh:=hb.halves
      rw [←ha] at hh
      by_cases hlt2:b≤n
      ·have hlt2I:(b:Int)≤(n:Int):=by omega
       obtain⟨m,hm⟩:∃m,a+s=m:=⟨_,rfl⟩
       have hmI:(a:Int)+s=m:=by omega
       rw [Nat.min_eq_left (by omega),Nat.min_eq_left (by omega),hm] at hh
       have hmg:=mergeEv_any f ok Hc.out (b-a) a m b n cap g X wr (Nat.le_refl _) hrow (by omega) (by omega) hlt2 (fun x hx=>Hok.out x (ht.alike.mem hx)) hn hh.1 (by rw [show b=m+s by omega];exact hh.2)
       have hne:∀Y,Turned X Y a b→Upto Y a b→BlkTo s n (k+1) Y:=fun Y h1 h2=>hb.next (by rw [←ha,←hb'];exact h1) (by rw [←ha,←hb'];exact h2)
       have hb2:b=2*((k+1)*s):=by rw [Nat.succ_mul k s];omega
       obtain⟨Ht,Hb,Hrow,Hk,Hmg,Hne,Hb2,Hh,Ha⟩:=hid9 ht hb hrow hk hmg hne hb2 hh ha;clear ha hh hb2 hne hmg hk hrow hb ht;obtain⟨Hm,Hb'⟩:=hid2 hm hb';clear hb' hm
       go_wp2_with (go_at_call 138;(with_reducible refine Hmg.out.mono ?_);rintro e w2 ⟨rfl,Y,htY,huY,hrow2,hk2⟩;have HtY:=Lib.hid htY;have HbY:=Lib.hid (Hne.out Y htY huY);have Hrow2:=Lib.hid hrow2;have Hk2:=Lib.hid (Hk.out.same hk2);clear htY huY hrow2 hk2)
       go_roundw
       case rel=>exact⟨k+1,b,b+2*s,Y,by go_num,by go_num,Hb2.out,rfl,hlt2,Ht.out.trans (HtY.out.wide (Nat.zero_le _) hlt2),HbY.out,Hrow2.out,Hk2.out⟩
       case measure=>simp [intOf];omega
      ·have hlt2I:¬(b:Int)≤(n:Int):=by omega
       have hdn:∀Y,Turned X Y a n→Upto Y a n→Blk (2*s) n Y:=fun Y h1 h2=>hb.done (by omega) (by omega) (by rw [←ha];exact h1) (by rw [←ha];exact h2)
       by_cases hlt3:a+s<n
       ·obtain⟨m,hm⟩:∃m,a+s=m:=⟨_,rfl⟩
        have hmI:(a:Int)+s=m:=by omega
        have hmnI:(m:Int)<n:=by omega
        rw [Nat.min_eq_left (by omega),Nat.min_eq_right (by omega),hm] at hh
        have hmg:=mergeEv_any f ok Hc.out (n-a) a m n n cap g X wr (Nat.le_refl _) hrow (by omega) (by omega) (Nat.le_refl _) (fun x hx=>Hok.out x (ht.alike.mem hx)) hn hh.1 hh.2
        obtain⟨Ht,Hb,Hrow,Hk,Hmg,Hdn,Hh,Ha,Hm⟩:=hid9 ht hb hrow hk hmg hdn hh ha hm;clear hm ha hh hdn hmg hk hrow hb ht;have Hb':=Lib.hid hb';clear hb'
        go_wp2_with (go_at_call 138;(with_reducible refine Hmg.out.mono ?_);rintro e w2 ⟨rfl,Y,htY,huY,hrow2,hk2⟩;have HtY:=Lib.hid htY;have HbY:=Lib.hid (Hdn.out Y htY huY);have Hrow2:=Lib.hid hrow2;have Hk2:=Lib.hid (Hk.out.same hk2);clear htY huY hrow2 hk2)
        go_roundw
        case rel=>exact⟨2*s,Y,by go_num,by omega,by omega,Ht.out.trans (HtY.out.wide (Nat.zero_le _) (Nat.le_refl _)),HbY.out,Hrow2.out,Hk2.out⟩
        case measure=>simp [intOf];omega
       ·have hlt3I:¬(a:Int)+s<n:=by omega
        have hfin:=hdn X (Turned.refl _ _ _) (by have:=hh.1;rwa [Nat.min_eq_right (by omega)] at this)
        obtain⟨Ht,Hb,Hrow,Hk,Hdn,Hh,Ha,Hfin,Hb'⟩:=hid9 ht hb hrow hk hdn hh ha hfin hb';clear hb' hfin ha hh hdn hk hrow hb ht
        go_wp2
        go_roundw
        case rel=>exact⟨2*s,X,by go_num,by omega,by omega,Ht.out,Hfin.out,Hrow.out,Hk.out⟩
        case measure=>simp [intOf];omega
    ·have hltI:¬(s:Int)<(n:Int):=by omega
     have hup:=hb.all (by omega)
     obtain⟨Ht,Hb,Hrow,Hk,Hup⟩:=hid5 ht hb hrow hk hup;clear hup hk hrow hb ht
     go_wp2
     go_end0
     exact⟨rfl,X,Ht.out,Hup.out,Hrow.out,Hk.out⟩
set_option maxHeartbeats 800000
theorem inssEv_none(fv v:Value)(w:World):Calls Tryz.prog 137 #[v, .int .i64 0, .int .i64 0,fv] w fun e w'=>e= .returned (.tuple #[])∧Keeps (fun _=>False) w w':=by
 go_enter Tryz.func137,Tryz.ntmps137
 go_wp2
 refine wp_loop_rounds 1 ?_
 rw [rounds_succ]
 go_wp2
 go_end0
 exact⟨rfl,Keeps.refl _ _⟩
theorem stableEv_none(fv v:Value)(w:World):Calls Tryz.prog 116 #[v, .int .i64 0,fv] w fun e w'=>e= .returned (.tuple #[])∧Keeps (fun _=>False) w w':=by
 go_enter Tryz.func116,Tryz.ntmps116
 go_wp2
 refine wp_loop_rounds 1 ?_
 rw [rounds_succ]
 go_wp2_with (go_at_call 137;(with_reducible refine(inssEv_none _ _ _).mono ?_);rintro e w1 ⟨rfl,hk1⟩;have Hk1:=Lib.hid hk1;clear hk1)
 refine wp_loop_rounds 1 ?_
 rw [rounds_succ]
 go_wp2
 go_end0
 exact⟨rfl,Hk1.out⟩
theorem sortEv_any(f:Nat)(ok:Ev→Prop)(hc:CmpBy f ok)(v:Value)(L:List Ev)(w:World)(h:w.ownsRow 0 26 5 v L.length (L.flatMap Ev.cells))(hok:∀x∈L,ok x)(hn:L.length≤1000000):
  Calls Tryz.prog 93 #[v, .func (.func f) #[] #[]] w fun e w'=>e= .returned (.tuple #[])∧w'.ownsRow 0 26 5 v L.length ((sortL L).flatMap Ev.cells)∧Keeps (fun i=>v.ownBlock=some i) w w':=by
 obtain⟨ad,cap,rfl,_,hnone⟩:=ownsRow_shape h
 rcases Nat.eq_zero_or_pos L.length with h0|h0
 ·obtain rfl:L= []:=List.length_eq_zero_iff.1 h0
  simp only [List.length_nil] at h⊢
  obtain⟨H,Hc,Hok,Hnone⟩:=hid4 h hc hok hnone;clear hnone hok hc h
  go_enter Tryz.func93,Tryz.ntmps93
  go_wp2_with (go_at_call 116;(with_reducible refine(stableEv_none _ _ _).mono ?_);rintro e w1 ⟨rfl,hk1⟩;have Hk1:=Lib.hid hk1;clear hk1)
  go_end0
  exact⟨rfl,H.out.of_keeps Hk1.out,Hk1.out.mono (by simp)⟩
 ·obtain⟨g,c2,he,hg⟩:=owns_some h h0
  simp only [Value.slice.injEq,true_and] at he
  obtain⟨rfl,rfl⟩:=he
  have hst:=stableEv_any f ok hc L.length cap g L w ⟨h,rfl⟩ hok hn
  obtain⟨n,hln⟩:∃n,L.length=n:=⟨_,rfl⟩
  rw [hln] at hst hn⊢
  obtain⟨H,Hc,Hok,Hnone,Hst,Hln⟩:=hid6 h hc hok hnone hst hln;clear hln hst hnone hok hc h
  go_enter Tryz.func93,Tryz.ntmps93
  go_wp2_with (go_at_call 116;(with_reducible refine Hst.out.mono ?_);rintro e w1 ⟨rfl,X,ht,hu,hrow,hk1⟩;have HT:=Lib.hid ht;have HU:=Lib.hid hu;have Hrow:=Lib.hid hrow;have Hk1:=Lib.hid hk1;clear hk1 ht hu hrow)
  go_end0
  have he:=sortL_one (X:=X) (L:=L) (Upto.pair (by rw [HT.out.len,Hln.out];exact HU.out)) HT.out.alike
  rw [←he]
  exact⟨rfl,Hrow.out.1,Hk1.out.mono fun i _ e=>by rw [e];rfl⟩
theorem info_tEvent:(Tryz.prog.info? 26).map (fun i=>(i.zero,i.size,i.bytes))=some (some (.agg #[.int .i64 0, .int .i64 0, .int .i64 0, .int .i64 0, .int .i64 0]),5,40):=by kernel_rfl
set_option maxHeartbeats 400000
theorem cloneEv_any(w:World)(v:Value)(n:Nat)(xs:List Value)(hr:Reads w 5 v n xs)(h1:∀u∈xs,u.oneCell'=true)(hn:n≤1000000000000):
  Calls Tryz.prog 92 #[v] w fun e w'=>∃v',e= .returned v'∧w'.ownsRow 0 26 5 v' n xs∧Keeps (fun _=>False) w w'∧(∀k,v'.ownBlock=some k→w.heap.size≤k):=by
 obtain⟨i0,hi,hz0,hz1,hz2⟩:=info_parts info_tEvent
 have hr':=hr
 obtain⟨ad,c,rfl,hnc,hl,hnone,hcells⟩:=hr'
 clear hcells
 have heq:=fun(wx:World) (ad:Option Addr) (l c:Nat)=>Lib.run_eql_slice_nil (P:=Tryz.prog) wx 39 _ ad l c 0 0 Tryz.underlying39
 rcases ad with _|a
 ·obtain rfl:=hnone rfl
  obtain rfl:n=0:=by omega
  obtain rfl:xs= []:=List.eq_nil_of_length_eq_zero (by simpa using hl)
  have hr0:=Lib.hid hr;clear hr
  go_enter Tryz.func92,Tryz.ntmps92
  go_wp2
  go_ret
  exact⟨_,rfl,World.ownsRow_nil _ _ _ _,Keeps.refl _ _,by simp [Value.ownBlock]⟩
 ·have Hr:=Lib.hid hr;clear hr
  obtain⟨Hl,Hnone,H1⟩:=hid3 hl hnone h1;clear h1 hnone hl
  go_enter Tryz.func92,Tryz.ntmps92
  go_wp2_with (at_builtin;refine wpList_append_row rfl (.tmp 5) (.tmp 6) 39 rfl 0 26 i0 _ 5 40 Tryz.underlying39 hi hz0 hz1 hz2 rfl (by decide) _ 0 [] rfl (World.ownsRow_lit w #[] 0 (by omega) (by unfold maxLen;omega) rfl) _ n xs rfl (Hr.out.keeps (Keeps.alloc (S:=fun _=>False) _ _) (by simp)) H1.out (by unfold maxLen;omega) (by omega) (by omega) ?_)
  intro v' w1 hown1 hk1 hfr
  have hend:w1.ownsRow 0 26 5 v' n xs∧Keeps (fun _=>False) w w1∧(∀k,v'.ownBlock=some k→w.heap.size≤k):=by
   refine⟨by simpa using hown1,(Keeps.alloc w _).trans (hk1.mono fun k _ hk=> ?_),fun k hk=> ?_⟩
   ·simp only [Value.ownBlock,Option.some.injEq] at hk;omega
   ·rcases hfr with hf|⟨g,hg,hh⟩
    ·rw [hf] at hk;simp only [Value.ownBlock,Option.some.injEq] at hk;omega
    ·rw [hg] at hk;simp only [Option.some.injEq] at hk;omega
  have Hend:=Lib.hid hend;clear hend hown1 hk1 hfr
  go_wp2
  go_ret
  exact⟨_,rfl,Hend.out⟩
set_option maxHeartbeats 800000
theorem datSort1_any(x y:Ev)(w:World):Calls Tryz.prog 94 #[x.agg,y.agg] w fun e w'=>∃z,e= .returned (.int .i64 z)∧(z<0↔x.day<y.day)∧Keeps (fun _=>False) w w':=by
 obtain⟨x0,x1,x2,x3,x4⟩:=x
 obtain⟨y0,y1,y2,y3,y4⟩:=y
 simp only [Ev.agg]
 by_cases h:x1<y1
 ·go_enter Tryz.func94,Tryz.ntmps94
  go_wp2
  go_ret
  exact⟨_,rfl,by simp;exact h,by(repeat (first|exact Keeps.refl _ _|exact Keeps.alloc _ _|exact Keeps.drew _|exact Keeps.drewN _ _|refine Keeps.trans_drew ?_|refine Keeps.trans_drewN ?_|refine Keeps.trans_alloc ?_))⟩
 ·by_cases h2:x1>y1
  ·go_enter Tryz.func94,Tryz.ntmps94
   go_wp2
   go_ret
   exact⟨_,rfl,by simp;omega,by(repeat (first|exact Keeps.refl _ _|exact Keeps.alloc _ _|exact Keeps.drew _|exact Keeps.drewN _ _|refine Keeps.trans_drew ?_|refine Keeps.trans_drewN ?_|refine Keeps.trans_alloc ?_))⟩
  ·go_enter Tryz.func94,Tryz.ntmps94
   go_wp2
   go_ret
   exact⟨_,rfl,by simp;omega,by(repeat (first|exact Keeps.refl _ _|exact Keeps.alloc _ _|exact Keeps.drew _|exact Keeps.drewN _ _|refine Keeps.trans_drew ?_|refine Keeps.trans_drewN ?_|refine Keeps.trans_alloc ?_))⟩
theorem datSort1_by:CmpBy 94 (fun _=>True):=⟨enters_of Tryz.func94 (by kernel_rfl) rfl,fun x y W _ _=>datSort1_any x y W⟩
theorem datSort_any(v:Value)(L:List Ev)(w:World)(hr:Reads w 5 v L.length (L.flatMap Ev.cells))(hl:L.length≤1000000):
  Calls Tryz.prog 62 #[v] w fun e w'=>∃v',e= .returned v'∧w'.ownsRow 0 26 5 v' L.length ((sortL L).flatMap Ev.cells)∧Keeps (fun _=>False) w w'∧(∀g,v'.ownBlock=some g→w.heap.size≤g):=by
 have hcl:=cloneEv_any w v L.length (L.flatMap Ev.cells) hr (fun u hu=>Ev.one _ u hu) (by omega)
 obtain⟨ad,cap,rfl,_⟩:=id hr
 obtain⟨Hr,Hcl⟩:=hid2 hr hcl;clear hcl hr
 go_enter Tryz.func62,Tryz.ntmps62
 go_wp2_with (go_at_call 92;(with_reducible refine Hcl.out.mono ?_);rintro e w1 ⟨v1,rfl,hrow1,hk1,hnew1⟩;obtain⟨ad1,c1,rfl,_,_⟩:=ownsRow_shape hrow1;have Hs:=Lib.hid (sortEv_any 94 _ datSort1_by _ L w1 hrow1 (fun _ _=>trivial) hl);have Hk1:=Lib.hid hk1;have Hnew1:=Lib.hid hnew1;clear hk1 hnew1 hrow1)
 go_wp2_with (go_at_call 93;(with_reducible refine Hs.out.mono ?_);rintro e w2 ⟨rfl,hrow2,hk2⟩;have Hrow2:=Lib.hid hrow2;have Hk2:=Lib.hid hk2;clear hk2 hrow2)
 go_ret
 exact⟨_,rfl,Hrow2.out,Hk1.out.trans (Hk2.out.mono fun i _ e=> .inr (Hnew1.out i e)),Hnew1.out⟩
end Go.Proofs.YthcmpcekmkioaaaGreat
namespace Go.Proofs.YthcmpcekmkioaaaGreat
open Go.RowKit
theorem info_tI64s:(Tryz.prog.info? 22).map (fun i=>(i.zero,i.size,i.bytes))=some (some (.slice none 0 0),1,24):=by kernel_rfl
structure St where
 i:Nat
 day:Int
 p:Ps
 R:List Int
 e0:List (List Int)
 e1:List (List Int)
 out:List Stm
structure Fx where
 X:Nat→Prop
 Y:Nat→Prop
 Z:World
instance:CoeFun Fx (fun _=>Nat→Prop):=⟨Fx.X⟩
def OwnB(w0:World)(X:Fx)(b:Nat):Prop:=w0.heap.size≤b∧¬X b
def Own(w0:World)(X:Fx)(v:Value):Prop:=∀b,v.ownBlock=some b→OwnB w0 X b
structure RunV(w0:World)(X:Fx)(B:Nat)(t:Tm)(n:Nat)(vt:Value)(L:List Ev)(f0 f1 f2:Value)(s:St)(vl vb vr:Value)(g0 g1:Nat)(S0 S1:List SI)(vo:Value)(P:List SV)(W:World):Prop where
 blk:W.heap[B]?=some (.cells #[.int .i64 t.limit,vt, .int .i64 t.cyc, .int .i64 t.due, .int .i64 t.minFixed, .int .i64 t.minPart, .int .i64 t.start,vl, .int .i64 (s.i:Nat), .int .i64 s.day,vb, .int .i64 s.p.cr, .int .i64 s.p.du,vr, .slice (some ⟨g0,0,none⟩) n n, .slice (some ⟨g1,0,none⟩) n n,vo,f0,f1,f2] 110 (0,0))
 trs:Reads W 2 vt n (t.trs.flatMap Tn.cells)
 evs:W.ownsRow 0 26 5 vl L.length (L.flatMap Ev.cells)
 bal:W.ownsRow 0 2 1 vb n (s.p.bal.flatMap i64c)
 rts:W.ownsRow 0 2 1 vr n (s.R.flatMap i64c)
 o0:W.heap[g0]?=some (.cells (S0.map SI.v).toArray 22 (0,0))
 o1:W.heap[g1]?=some (.cells (S1.map SI.v).toArray 22 (0,0))
 i0:∀x∈S0,W.ownsRow 0 2 1 x.v x.L.length (x.L.flatMap i64c)
 i1:∀x∈S1,W.ownsRow 0 2 1 x.v x.L.length (x.L.flatMap i64c)
 out:W.ownsRow 0 80 9 vo P.length (P.flatMap SV.cells)
 ln:∀x∈P,W.ownsRow 0 117 3 x.v x.s.lines.length (x.s.lines.flatMap Ln.cells)
 l0:S0.map SI.L=s.e0
 l1:S1.map SI.L=s.e1
 lp:P.map SV.s=s.out
 n0:S0.length=n
 n1:S1.length=n
 nb:s.p.bal.length=n
 nr:s.R.length=n
 d00:∀(j k:Nat) (x y:SI),S0[j]?=some x→S0[k]?=some y→j≠k→∀b,x.v.ownBlock=some b→y.v.ownBlock≠some b
 d11:∀(j k:Nat) (x y:SI),S1[j]?=some x→S1[k]?=some y→j≠k→∀b,x.v.ownBlock=some b→y.v.ownBlock≠some b
 d01:∀(x y:SI),x∈S0→y∈S1→∀b,x.v.ownBlock=some b→y.v.ownBlock≠some b
 db0:∀x∈S0,∀b,x.v.ownBlock=some b→vb.ownBlock≠some b∧vr.ownBlock≠some b
 db1:∀x∈S1,∀b,x.v.ownBlock=some b→vb.ownBlock≠some b∧vr.ownBlock≠some b
 g01:g0≠g1
 wB:OwnB w0 X B
 w0':OwnB w0 X g0
 w1':OwnB w0 X g1
 wl:Own w0 X vl
 wb:Own w0 X vb
 wr:Own w0 X vr
 wo:Own w0 X vo
 wi0:∀x∈S0,Own w0 X x.v
 wi1:∀x∈S1,Own w0 X x.v
 wln:∀x∈P,Own w0 X x.v
 wt:∀b,vt.ownBlock=some b→b<w0.heap.size∧¬X b
 xl:∀b,X b→b<W.heap.size
 yx:∀b,X.Y b→X b
 fz:∀b,X.Y b→W.heap[b]?=X.Z.heap[b]?
 kp:Keeps X.X w0 W
section
variable {w0:World} {X:Fx} {B:Nat} {t:Tm} {n:Nat} {vt:Value} {L:List Ev} {f0 f1 f2:Value} {s:St} {vl vb vr:Value} {g0 g1:Nat} {S0 S1:List SI} {vo:Value} {P:List SV} {W W':World}
theorem RunV.keep(h:RunV w0 X B t n vt L f0 f1 f2 s vl vb vr g0 g1 S0 S1 vo P W){S:Nat→Prop}(hk:Keeps S W W')(hS:∀b,S b→X b)(hY:∀b,S b→¬X.Y b):RunV w0 X B t n vt L f0 f1 f2 s vl vb vr g0 g1 S0 S1 vo P W':=
 { h with
  blk:=box_old h.blk hk (fun e=>h.wB.2 (hS _ e))
  trs:=h.trs.keeps hk (fun b hb e=>(h.wt b hb).2 (hS _ e))
  evs:=hk.row h.evs (fun b hb e=>(h.wl b hb).2 (hS _ e))
  bal:=hk.row h.bal (fun b hb e=>(h.wb b hb).2 (hS _ e))
  rts:=hk.row h.rts (fun b hb e=>(h.wr b hb).2 (hS _ e))
  o0:=box_old h.o0 hk (fun e=>h.w0'.2 (hS _ e))
  o1:=box_old h.o1 hk (fun e=>h.w1'.2 (hS _ e))
  i0:=fun x hx=>hk.row (h.i0 x hx) (fun b hb e=>(h.wi0 x hx b hb).2 (hS _ e))
  i1:=fun x hx=>hk.row (h.i1 x hx) (fun b hb e=>(h.wi1 x hx b hb).2 (hS _ e))
  out:=hk.row h.out (fun b hb e=>(h.wo b hb).2 (hS _ e))
  ln:=fun x hx=>hk.row (h.ln x hx) (fun b hb e=>(h.wln x hx b hb).2 (hS _ e))
  xl:=fun b hb=>Nat.lt_of_lt_of_le (h.xl b hb) hk.size
  fz:=fun b hb=>(hk.block b (h.xl b (h.yx b hb)) (fun e=>hY b e hb)).trans (h.fz b hb)
  kp:=h.kp.trans (hk.mono fun b _ e=> .inl (hS b e)) }
theorem RunV.keep0(h:RunV w0 X B t n vt L f0 f1 f2 s vl vb vr g0 g1 S0 S1 vo P W)(hk:Keeps (fun _=>False) W W'):RunV w0 X B t n vt L f0 f1 f2 s vl vb vr g0 g1 S0 S1 vo P W':=h.keep hk (by simp) (by simp)
theorem RunV.new(h:RunV w0 X B t n vt L f0 f1 f2 s vl vb vr g0 g1 S0 S1 vo P W){b:Nat}(hb:W.heap.size≤b):OwnB w0 X b:=⟨by have:=h.kp.size;omega,fun e=>by have:=h.xl b e;omega⟩
theorem RunV.ownN(h:RunV w0 X B t n vt L f0 f1 f2 s vl vb vr g0 g1 S0 S1 vo P W){v:Value}(hv:∀b,v.ownBlock=some b→W.heap.size≤b):Own w0 X v:=fun b e=>h.new (hv b e)
theorem si_cell{S:List SI}{g:Nat}{e:TypeId}{k:Nat}{x:SI}(h:W.heap[g]?=some (.cells (S.map SI.v).toArray e (0,0)))(hx:S[k]?=some x):W.cell? ⟨g,k,none⟩=some x.v:=by
 rw [cell_of_cells h,List.getElem?_toArray,List.getElem?_map,hx];rfl
theorem si_set{S:List SI}{g:Nat}{e:TypeId}{k:Nat}(x:SI)(h:W.heap[g]?=some (.cells (S.map SI.v).toArray e (0,0))):(W.setCell ⟨g,k,none⟩ x.v).heap[g]?=some (.cells ((S.set k x).map SI.v).toArray e (0,0)):=by
 rw [heap_setCell_same _ _ k _ _ x.v h,List.setIfInBounds_toArray,List.map_set]
theorem made_sis(n:Nat):madeCells (Value.slice none 0 0).cells n=((List.replicate n (⟨none,0, []⟩:SI)).map SI.v).toArray:=by
 apply Array.ext'
 rw [List.map_replicate]
 apply List.ext_getElem?
 intro i
 rw [List.getElem?_replicate]
 by_cases h:i<n
 ·rw [if_pos h]
  have h2:i<(madeCells (Value.slice none 0 0).cells n).toList.length:=by simp [madeCells,Value.cells];exact h
  rw [List.getElem?_eq_getElem h2]
  simp [madeCells,Value.cells,SI.v,Nat.mod_one]
 ·rw [if_neg h,List.getElem?_eq_none (by simp [madeCells,Value.cells];omega)]
def si0:SI:=⟨none,0, []⟩
theorem RunV.renew(h:RunV w0 X B t n vt L f0 f1 f2 s vl vb vr g0 g1 S0 S1 vo P W){W2:World}(hk:Keeps (fun _=>False) W W2){a b:Nat}(ha:W.heap.size≤a)(hb:W.heap.size≤b)(hab:a≠b)
  (h0:W2.heap[a]?=some (.cells ((List.replicate n si0).map SI.v).toArray 22 (0,0))) (h1:W2.heap[b]?=some (.cells ((List.replicate n si0).map SI.v).toArray 22 (0,0))):
  RunV w0 X B t n vt L f0 f1 f2 { s with e0:=List.replicate n [],e1:=List.replicate n [] } vl vb vr a b (List.replicate n si0) (List.replicate n si0) vo P ((W2.setCell ⟨B,14,none⟩ (.slice (some ⟨a,0,none⟩) n n)).setCell ⟨B,15,none⟩ (.slice (some ⟨b,0,none⟩) n n)):=by
 have h2:=h.keep0 hk
 have hBl:=lt_of_block h.blk
 have kB:Keeps (fun i=>i=B) W2 ((W2.setCell ⟨B,14,none⟩ (.slice (some ⟨a,0,none⟩) n n)).setCell ⟨B,15,none⟩ (.slice (some ⟨b,0,none⟩) n n)):=(Keeps.setCell (S:=fun i=>i=B) _ _ _ rfl).trans (Keeps.setCell _ _ _ (.inl rfl))
 have hne:∀{e:TypeId} {sz m:Nat} {v:Value} {xs:List Value},W2.ownsRow 0 e sz v m xs→110≠e→∀i,v.ownBlock=some i→¬i=B:=fun hr hne i hi e=>by subst e;exact ownsRow_ne hr h2.blk hne hi
 have hnil:∀x∈List.replicate n si0,x=si0:=fun x hx=>(List.mem_replicate.1 hx).2
 have hget:∀(j:Nat) (x:SI),(List.replicate n si0)[j]?=some x→x=si0:=fun j x hx=>hnil x (List.mem_of_getElem? hx)
 exact { h2 with
  blk:=(heap_setCell_same _ _ 15 _ _ _ ((heap_setCell_same _ _ 14 _ _ _ h2.blk).trans rfl)).trans rfl
  trs:=h2.trs.keeps kB (fun i hi e=>by have e':i=B:=e;have:=(h.wt i hi).1;have:=h.wB.1;omega)
  evs:=kB.row h2.evs (hne h2.evs (by decide))
  bal:=kB.row h2.bal (hne h2.bal (by decide))
  rts:=kB.row h2.rts (hne h2.rts (by decide))
  o0:=box_old h0 kB (by omega)
  o1:=box_old h1 kB (by omega)
  i0:=fun x hx=>by rw [hnil x hx];exact World.ownsRow_nil _ _ _ _
  i1:=fun x hx=>by rw [hnil x hx];exact World.ownsRow_nil _ _ _ _
  out:=kB.row h2.out (hne h2.out (by decide))
  ln:=fun x hx=>kB.row (h2.ln x hx) (hne (h2.ln x hx) (by decide))
  l0:=by simp [si0]
  l1:=by simp [si0]
  n0:=by simp
  n1:=by simp
  d00:=fun j k x y hx hy _ b e=>by rw [hget j x hx] at e;simp [si0,SI.v,Value.ownBlock] at e
  d11:=fun j k x y hx hy _ b e=>by rw [hget j x hx] at e;simp [si0,SI.v,Value.ownBlock] at e
  d01:=fun x y hx hy b e=>by rw [hnil x hx] at e;simp [si0,SI.v,Value.ownBlock] at e
  db0:=fun x hx b e=>by rw [hnil x hx] at e;simp [si0,SI.v,Value.ownBlock] at e
  db1:=fun x hx b e=>by rw [hnil x hx] at e;simp [si0,SI.v,Value.ownBlock] at e
  g01:=hab
  w0':=h.new ha
  w1':=h.new hb
  wi0:=fun x hx b e=>by rw [hnil x hx] at e;simp [si0,SI.v,Value.ownBlock] at e
  wi1:=fun x hx b e=>by rw [hnil x hx] at e;simp [si0,SI.v,Value.ownBlock] at e
  xl:=fun b hb=>Nat.lt_of_lt_of_le (h2.xl b hb) kB.size
  fz:=fun b hb=>(kB.block b (h2.xl b (h2.yx b hb)) (fun e=>by have e':b=B:=e;exact h.wB.2 (e'▸h.yx b hb))).trans (h2.fz b hb)
  kp:=h2.kp.trans (kB.mono fun i _ e=> .inr (by have e':i=B:=e;rw [e'];exact h.wB.1)) }
end
end Go.Proofs.YthcmpcekmkioaaaGreat
namespace Go.Proofs.YthcmpcekmkioaaaGreat
open Go.RowKit
set_option maxRecDepth 100000
set_option maxHeartbeats 1600000
theorem runFresh_any{w0:World}{X:Fx}{B:Nat}{t:Tm}{n:Nat}{vt:Value}{L:List Ev}{f0 f1 f2:Value}{s:St}{vl vb vr:Value}{g0 g1:Nat}{S0 S1:List SI}{vo:Value}{P:List SV}{W:World}(h:RunV w0 X B t n vt L f0 f1 f2 s vl vb vr g0 g1 S0 S1 vo P W)(hn:n≤1000):
  Calls Tryz.prog 65 #[(.pointer (some ⟨B,0,none⟩))] W fun e W'=>e= .returned (.tuple #[])∧∃a b,RunV w0 X B t n vt L f0 f1 f2 { s with e0:=List.replicate n [],e1:=List.replicate n [] } vl vb vr a b (List.replicate n si0) (List.replicate n si0) vo P W':=by
 obtain⟨i0,hi,hi0,hi1,hi2⟩:=info_parts info_tI64s
 obtain⟨adT,cT,rfl⟩:∃a c,vt= .slice a n c:=by obtain⟨a,c,h,_⟩:=h.trs;exact⟨a,c,h⟩
 have hmk:=fun(W:World)=>run_makeSlice (P:=Tryz.prog) W 87 22 i0 (.slice none 0 0) Tryz.underlying87 hi hi0 .i64 .i64 (n:Int) (n:Int) (by omega) (by omega) (by rw [hi1];omega) (by rw [hi2];omega) (by omega)
 simp only [Int.toNat_natCast,hi1,Nat.mul_one] at hmk
 obtain⟨Z,hZ⟩:∃Z,Z=madeCells (Value.slice none 0 0).cells n:=⟨_,rfl⟩
 rw [←hZ] at hmk
 rw [made_sis] at hZ
 have hrv:=h
 have hS:∀W',Keeps (fun _=>False) W W'→(fun W'=>W'.cell? ⟨B,14,none⟩=some (.slice (some ⟨g0,0,none⟩) n n)∧W'.cell? ⟨B,15,none⟩=some (.slice (some ⟨g1,0,none⟩) n n)∧W'.frozen? ⟨B,14,none⟩=false∧W'.frozen? ⟨B,15,none⟩=false∧B<W'.heap.size) W':=fun W' hk=>by
  have hb:=box_old h.blk hk (by simp)
  exact⟨cell_of_cells hb 14,cell_of_cells hb 15,free_of_cells hb 14,free_of_cells hb 15,lt_of_block hb⟩
 have c1:=cell_of_cells h.blk 1
 have bl:=lt_of_block h.blk
 obtain⟨H,Hrv,Hi,Hi0,Hi1,Hi2,HZ,HS⟩:=hid8 h hrv hi hi0 hi1 hi2 hZ hS;clear hS hZ hi2 hi1 hi0 hi hrv h
 go_enter Tryz.func65,Tryz.ntmps65
 go_wp2_with fail
 refine wp_region_mixw (fun _=>True) (.take 0 (.take 1 (.take 3 (.fork 2 (.move 4 (.take 5 (.take 6 (.take 7 (.move 8 .done))))) 4 (.move 2 (.take 5 (.take 6 (.take 7 (.move 8 .done))))))))) (by kernel_rfl) (by kernel_rfl) ?_ ?_
 ·trivial
 intro w1 hs1 hk1
 have Hk1:=Lib.hid hk1
 clear hk1 hs1
 repeat (first
  |(refine mix_skip rfl (by rfl) ?_;try simp only [Act.put,List.setIfInBounds_toArray,List.set_cons_zero,List.set_cons_succ])
  |(refine mix_skipm rfl (by rfl) ?_;try simp only [Act.put,List.setIfInBounds_toArray,List.set_cons_zero,List.set_cons_succ])
  |(refine mix_take (v:= ?_) rfl (by rfl) ?_ ?_;rotate_left;(· intro w' hSw;(try dsimp only at hSw);go_simp;(try with_reducible rfl));rotate_right;try simp only [Act.put,List.setIfInBounds_toArray,List.set_cons_zero,List.set_cons_succ]))
 refine mix_fork ?_ ?_ trivial
 ·skip
  refine mix_move rfl (fun K hK=> ?_)
  go_simp
  refine hK.out _ _ (by trivial) ?_
  clear hK K
  try simp only [Act.put,List.setIfInBounds_toArray,List.set_cons_zero,List.set_cons_succ]
  repeat (first
   |(refine mix_skip rfl (by rfl) ?_;try simp only [Act.put,List.setIfInBounds_toArray,List.set_cons_zero,List.set_cons_succ])
   |(refine mix_skipm rfl (by rfl) ?_;try simp only [Act.put,List.setIfInBounds_toArray,List.set_cons_zero,List.set_cons_succ])
   |(refine mix_take (v:= ?_) rfl (by rfl) ?_ ?_;rotate_left;(· intro w' hSw;(try dsimp only at hSw);go_simp;(try with_reducible rfl));rotate_right;try simp only [Act.put,List.setIfInBounds_toArray,List.set_cons_zero,List.set_cons_succ]))
  refine mix_move rfl (fun K hK=> ?_)
  go_simp
  refine hK.out _ _ (by trivial) ?_
  clear hK K
  try simp only [Act.put,List.setIfInBounds_toArray,List.set_cons_zero,List.set_cons_succ]
  repeat (first
   |(refine mix_skip rfl (by rfl) ?_;try simp only [Act.put,List.setIfInBounds_toArray,List.set_cons_zero,List.set_cons_succ])
   |(refine mix_skipm rfl (by rfl) ?_;try simp only [Act.put,List.setIfInBounds_toArray,List.set_cons_zero,List.set_cons_succ])
   |(refine mix_take (v:= ?_) rfl (by rfl) ?_ ?_;rotate_left;(· intro w' hSw;(try dsimp only at hSw);go_simp;(try with_reducible rfl));rotate_right;try simp only [Act.put,List.setIfInBounds_toArray,List.set_cons_zero,List.set_cons_succ]))
  obtain⟨s14,s15,s16,s17,sl⟩:=HS.out _ ((Hk1.out.trans_alloc (o:= .cells Z 22)).trans_alloc (o:= .cells Z 22))
  have z0:((w1.alloc (.cells Z 22)).alloc (.cells Z 22)).heap[w1.heap.size]?=some (.cells ((List.replicate n si0).map SI.v).toArray 22 (0,0)):=by rw [show((List.replicate n si0).map SI.v).toArray=Z from HZ.out.symm];exact box_alloc (heap_alloc_new w1 _) _
  have z1:((w1.alloc (.cells Z 22)).alloc (.cells Z 22)).heap[w1.heap.size+1]?=some (.cells ((List.replicate n si0).map SI.v).toArray 22 (0,0)):=by rw [show((List.replicate n si0).map SI.v).toArray=Z from HZ.out.symm];exact halloc_at2 _ _ (by simp)
  have hren:=Hrv.out.renew ((Hk1.out.trans_alloc (o:= .cells Z 22)).trans_alloc (o:= .cells Z 22)) (a:=w1.heap.size) (b:=w1.heap.size+1) (by have:=Hk1.out.size;omega) (by have:=Hk1.out.size;omega) (by omega) z0 z1
  obtain⟨Hren,Z0,Z1⟩:=hid3 hren z0 z1;clear z1 z0 hren
  refine mix_move rfl (fun K hK=> ?_)
  go_simp
  refine hK.out _ _ (by trivial) ?_
  clear hK K
  try simp only [Act.put,List.setIfInBounds_toArray,List.set_cons_zero,List.set_cons_succ]
  repeat (first
   |(refine mix_skip rfl (by rfl) ?_;try simp only [Act.put,List.setIfInBounds_toArray,List.set_cons_zero,List.set_cons_succ])
   |(refine mix_skipm rfl (by rfl) ?_;try simp only [Act.put,List.setIfInBounds_toArray,List.set_cons_zero,List.set_cons_succ])
   |(refine mix_take (v:= ?_) rfl (by rfl) ?_ ?_;rotate_left;(· intro w' hSw;(try dsimp only at hSw);go_simp;(try with_reducible rfl));rotate_right;try simp only [Act.put,List.setIfInBounds_toArray,List.set_cons_zero,List.set_cons_succ]))
  refine mix_done ?_
  clear s14 s15 s16 s17 sl
  go_wp2
  go_end0
  exact⟨rfl,_,_,Hren.out⟩
 ·skip
  refine mix_move rfl (fun K hK=> ?_)
  go_simp
  refine hK.out _ _ (by trivial) ?_
  clear hK K
  try simp only [Act.put,List.setIfInBounds_toArray,List.set_cons_zero,List.set_cons_succ]
  repeat (first
   |(refine mix_skip rfl (by rfl) ?_;try simp only [Act.put,List.setIfInBounds_toArray,List.set_cons_zero,List.set_cons_succ])
   |(refine mix_skipm rfl (by rfl) ?_;try simp only [Act.put,List.setIfInBounds_toArray,List.set_cons_zero,List.set_cons_succ])
   |(refine mix_take (v:= ?_) rfl (by rfl) ?_ ?_;rotate_left;(· intro w' hSw;(try dsimp only at hSw);go_simp;(try with_reducible rfl));rotate_right;try simp only [Act.put,List.setIfInBounds_toArray,List.set_cons_zero,List.set_cons_succ]))
  refine mix_move rfl (fun K hK=> ?_)
  go_simp
  refine hK.out _ _ (by trivial) ?_
  clear hK K
  try simp only [Act.put,List.setIfInBounds_toArray,List.set_cons_zero,List.set_cons_succ]
  repeat (first
   |(refine mix_skip rfl (by rfl) ?_;try simp only [Act.put,List.setIfInBounds_toArray,List.set_cons_zero,List.set_cons_succ])
   |(refine mix_skipm rfl (by rfl) ?_;try simp only [Act.put,List.setIfInBounds_toArray,List.set_cons_zero,List.set_cons_succ])
   |(refine mix_take (v:= ?_) rfl (by rfl) ?_ ?_;rotate_left;(· intro w' hSw;(try dsimp only at hSw);go_simp;(try with_reducible rfl));rotate_right;try simp only [Act.put,List.setIfInBounds_toArray,List.set_cons_zero,List.set_cons_succ]))
  obtain⟨s14,s15,s16,s17,sl⟩:=HS.out _ ((Hk1.out.trans_alloc (o:= .cells Z 22)).trans_alloc (o:= .cells Z 22))
  have z0:((w1.alloc (.cells Z 22)).alloc (.cells Z 22)).heap[w1.heap.size]?=some (.cells ((List.replicate n si0).map SI.v).toArray 22 (0,0)):=by rw [show((List.replicate n si0).map SI.v).toArray=Z from HZ.out.symm];exact box_alloc (heap_alloc_new w1 _) _
  have z1:((w1.alloc (.cells Z 22)).alloc (.cells Z 22)).heap[w1.heap.size+1]?=some (.cells ((List.replicate n si0).map SI.v).toArray 22 (0,0)):=by rw [show((List.replicate n si0).map SI.v).toArray=Z from HZ.out.symm];exact halloc_at2 _ _ (by simp)
  have hren:=Hrv.out.renew ((Hk1.out.trans_alloc (o:= .cells Z 22)).trans_alloc (o:= .cells Z 22)) (a:=w1.heap.size+1) (b:=w1.heap.size) (by have:=Hk1.out.size;omega) (by have:=Hk1.out.size;omega) (by omega) z1 z0
  obtain⟨Hren,Z0,Z1⟩:=hid3 hren z0 z1;clear z1 z0 hren
  refine mix_move rfl (fun K hK=> ?_)
  go_simp
  refine hK.out _ _ (by trivial) ?_
  clear hK K
  try simp only [Act.put,List.setIfInBounds_toArray,List.set_cons_zero,List.set_cons_succ]
  repeat (first
   |(refine mix_skip rfl (by rfl) ?_;try simp only [Act.put,List.setIfInBounds_toArray,List.set_cons_zero,List.set_cons_succ])
   |(refine mix_skipm rfl (by rfl) ?_;try simp only [Act.put,List.setIfInBounds_toArray,List.set_cons_zero,List.set_cons_succ])
   |(refine mix_take (v:= ?_) rfl (by rfl) ?_ ?_;rotate_left;(· intro w' hSw;(try dsimp only at hSw);go_simp;(try with_reducible rfl));rotate_right;try simp only [Act.put,List.setIfInBounds_toArray,List.set_cons_zero,List.set_cons_succ]))
  refine mix_done ?_
  clear s14 s15 s16 s17 sl
  go_wp2
  go_end0
  exact⟨rfl,_,_,Hren.out⟩
end Go.Proofs.YthcmpcekmkioaaaGreat
namespace Go.Proofs.YthcmpcekmkioaaaGreat
open Go.RowKit
section
variable {w0:World} {X:Fx} {B:Nat} {t:Tm} {n:Nat} {vt:Value} {L:List Ev} {f0 f1 f2:Value} {s:St} {vl vb vr:Value} {g0 g1:Nat} {S0 S1:List SI} {vo:Value} {P:List SV} {W W':World}
theorem RunV.ext0(h:RunV w0 X B t n vt L f0 f1 f2 s vl vb vr g0 g1 S0 S1 vo P W){k:Nat}{x x':SI}{v:Int}{w4 w5:World}(hx:S0[k]?=some x)(hk4:Keeps (fun _=>False) W w4)(hk5:Keeps (fun i=>x.v.ownBlock=some i) w4 w5)
  (hr:w5.ownsRow 0 2 1 x'.v x'.L.length (x'.L.flatMap i64c)) (hL:x'.L=x.L++ [v]) (hf:x'.v.ownBlock=x.v.ownBlock∨∃g,x'.v.ownBlock=some g∧w4.heap.size≤g):
  RunV w0 X B t n vt L f0 f1 f2 { s with e0:=s.e0.set k (x.L++ [v]) } vl vb vr g0 g1 (S0.set k x') S1 vo P (w5.setCell ⟨g0,k,none⟩ x'.v):=by
 have h4:=h.keep0 hk4
 have hxm:=List.mem_of_getElem? hx
 have hrx:=h4.i0 x hxm
 have hkl:=lt_of_get hx
 have hs4:=hk4.size
 have hs5:=hk5.size
 have hnewb:∀b,x'.v.ownBlock=some b→x.v.ownBlock=some b∨W.heap.size≤b:=fun b hb=>by
  rcases hf with hf|⟨g,hg,hh⟩
  ·exact .inl (hf▸hb)
  ·rw [hg] at hb;simp only [Option.some.injEq] at hb;exact .inr (by omega)
 have nx:∀{e:TypeId} {b:Nat} {c:Array Value},w4.heap[b]?=some (.cells c e (0,0))→e≠2→¬x.v.ownBlock=some b:=fun hb hne=>ownsRow_ne hrx hb hne
 have nr:∀{e:TypeId} {sz m:Nat} {u:Value} {xs:List Value},w4.ownsRow 0 e sz u m xs→e≠2→∀b,u.ownBlock=some b→¬x.v.ownBlock=some b:=fun hr' hne b hb e=>rows_ne hr' hrx hne hb e
 have h5o0:=box_old h4.o0 hk5 (nx h4.o0 (by decide))
 have h5o1:=box_old h4.o1 hk5 (nx h4.o1 (by decide))
 have h5b:=box_old h4.blk hk5 (nx h4.blk (by decide))
 have kg:Keeps (fun i=>i=g0) w5 (w5.setCell ⟨g0,k,none⟩ x'.v):=Keeps.setCell _ _ _ rfl
 have gb:∀{e:TypeId} {sz m:Nat} {u:Value} {xs:List Value},w5.ownsRow 0 e sz u m xs→22≠e→∀b,u.ownBlock=some b→¬b=g0:=fun hr' hne b hb e=>by subst e;exact ownsRow_ne hr' h5o0 hne hb
 have hBg:¬B=g0:=fun e=>by
  have h1:=h5b;rw [e,h5o0] at h1
  injection h1 with h1
  injection h1 with _ h1 _
  exact absurd h1 (by decide)
 have r5:∀{e:TypeId} {sz m:Nat} {u:Value} {xs:List Value},w4.ownsRow 0 e sz u m xs→(∀b,u.ownBlock=some b→¬x.v.ownBlock=some b)→22≠e→(w5.setCell ⟨g0,k,none⟩ x'.v).ownsRow 0 e sz u m xs:=fun hr' hd hne=>kg.row (hk5.row hr' hd) (gb (hk5.row hr' hd) hne)
 have hmem:∀(j:Nat) (y:SI),(S0.set k x')[j]?=some y→(j=k∧y=x')∨(j≠k∧S0[j]?=some y):=fun j y hy=>by
  by_cases e:j=k
  ·subst e;rw [List.getElem?_set_self hkl] at hy;simp only [Option.some.injEq] at hy;exact .inl ⟨rfl,hy.symm⟩
  ·rw [List.getElem?_set_ne (fun h=>e h.symm)] at hy;exact .inr ⟨e,hy⟩
 have hmem2:∀y∈S0.set k x',y=x'∨∃j,j≠k∧S0[j]?=some y:=fun y hy=>by
  obtain⟨j,hj⟩:=List.getElem?_of_mem hy
  rcases hmem j y hj with h|h
  ·exact .inl h.2
  ·exact .inr ⟨j,h⟩
 have hx2:∀y∈S1,∀b,x'.v.ownBlock=some b→y.v.ownBlock≠some b:=fun y hy b hb e=>by
  rcases hnewb b hb with h1|h1
  ·exact h.d01 x y hxm hy b h1 e
  ·have:=own_lt (h.i1 y hy) e;omega
 exact { h4 with
  blk:=box_old h5b kg hBg
  trs:=(h4.trs.keeps hk5 (fun b hb e=>by have:=(h.wt b hb).1;have:=(h.wi0 x hxm b e).1;omega)).keeps kg (fun b hb e=>by have e':b=g0:=e;have:=(h.wt b hb).1;have:=h.w0'.1;omega)
  evs:=r5 h4.evs (nr h4.evs (by decide)) (by decide)
  bal:=r5 h4.bal (fun b hb e=>(h.db0 x hxm b e).1 hb) (by decide)
  rts:=r5 h4.rts (fun b hb e=>(h.db0 x hxm b e).2 hb) (by decide)
  o0:=si_set x' h5o0
  o1:=box_old h5o1 kg (fun e=>h.g01 e.symm)
  i0:=fun y hy=>by
   rcases hmem2 y hy with rfl|⟨j,hj,hjy⟩
   ·exact kg.row hr (gb hr (by decide))
   ·exact r5 (h4.i0 y (List.mem_of_getElem? hjy)) (fun b hb e=>h.d00 j k y x hjy hx hj b hb e) (by decide)
  i1:=fun y hy=>r5 (h4.i1 y hy) (fun b hb e=>h.d01 x y hxm hy b e hb) (by decide)
  out:=r5 h4.out (nr h4.out (by decide)) (by decide)
  ln:=fun y hy=>r5 (h4.ln y hy) (nr (h4.ln y hy) (by decide)) (by decide)
  l0:=by rw [List.map_set,h.l0,hL]
  n0:=by rw [List.length_set];exact h.n0
  d00:=fun i j y z hy hz hne b hb=>by
   rcases hmem i y hy with⟨rfl,rfl⟩|⟨h1,h2⟩
   ·rcases hmem j z hz with⟨rfl,rfl⟩|⟨h3,h4'⟩
    ·exact absurd rfl hne
    ·rcases hnewb b hb with h5|h5
     ·exact h.d00 i j x z hx h4' hne b h5
     ·intro e;have:=own_lt (h.i0 z (List.mem_of_getElem? h4')) e;omega
   ·rcases hmem j z hz with⟨rfl,rfl⟩|⟨h3,h4'⟩
    ·intro e
     rcases hnewb b e with h5|h5
     ·exact h.d00 i j y x h2 hx hne b hb h5
     ·have:=own_lt (h.i0 y (List.mem_of_getElem? h2)) hb;omega
    ·exact h.d00 i j y z h2 h4' hne b hb
  d01:=fun y z hy hz b hb=>by
   rcases hmem2 y hy with rfl|⟨j,hj,hjy⟩
   ·exact hx2 z hz b hb
   ·exact h.d01 y z (List.mem_of_getElem? hjy) hz b hb
  db0:=fun y hy b hb=>by
   rcases hmem2 y hy with rfl|⟨j,hj,hjy⟩
   ·rcases hnewb b hb with h5|h5
    ·exact h.db0 x hxm b h5
    ·exact⟨fun e=>by have:=own_lt h.bal e;omega,fun e=>by have:=own_lt h.rts e;omega⟩
   ·exact h.db0 y (List.mem_of_getElem? hjy) b hb
  wi0:=fun y hy b hb=>by
   rcases hmem2 y hy with rfl|⟨j,hj,hjy⟩
   ·rcases hnewb b hb with h5|h5
    ·exact h.wi0 x hxm b h5
    ·exact h.new h5
   ·exact h.wi0 y (List.mem_of_getElem? hjy) b hb
  xl:=fun b hb=>Nat.lt_of_lt_of_le (Nat.lt_of_lt_of_le (h4.xl b hb) hs5) kg.size
  fz:=fun b hb=>((kg.block b (Nat.lt_of_lt_of_le (h4.xl b (h4.yx b hb)) hs5) (fun e=>by have e':b=g0:=e;exact h.w0'.2 (e'▸h.yx b hb))).trans (hk5.block b (h4.xl b (h4.yx b hb)) (fun e=>(h.wi0 x hxm b e).2 (h.yx b hb)))).trans (h4.fz b hb)
  kp:=(h4.kp.trans (hk5.mono fun i _ e=> .inr (h.wi0 x hxm i e).1)).trans (kg.mono fun i _ e=> .inr (by have e':i=g0:=e;rw [e'];exact h.w0'.1)) }
theorem RunV.ext1(h:RunV w0 X B t n vt L f0 f1 f2 s vl vb vr g0 g1 S0 S1 vo P W){k:Nat}{x x':SI}{v:Int}{w4 w5:World}(hx:S1[k]?=some x)(hk4:Keeps (fun _=>False) W w4)(hk5:Keeps (fun i=>x.v.ownBlock=some i) w4 w5)
  (hr:w5.ownsRow 0 2 1 x'.v x'.L.length (x'.L.flatMap i64c)) (hL:x'.L=x.L++ [v]) (hf:x'.v.ownBlock=x.v.ownBlock∨∃g,x'.v.ownBlock=some g∧w4.heap.size≤g):
  RunV w0 X B t n vt L f0 f1 f2 { s with e1:=s.e1.set k (x.L++ [v]) } vl vb vr g0 g1 S0 (S1.set k x') vo P (w5.setCell ⟨g1,k,none⟩ x'.v):=by
 have h4:=h.keep0 hk4
 have hxm:=List.mem_of_getElem? hx
 have hrx:=h4.i1 x hxm
 have hkl:=lt_of_get hx
 have hs4:=hk4.size
 have hs5:=hk5.size
 have hnewb:∀b,x'.v.ownBlock=some b→x.v.ownBlock=some b∨W.heap.size≤b:=fun b hb=>by
  rcases hf with hf|⟨g,hg,hh⟩
  ·exact .inl (hf▸hb)
  ·rw [hg] at hb;simp only [Option.some.injEq] at hb;exact .inr (by omega)
 have nx:∀{e:TypeId} {b:Nat} {c:Array Value},w4.heap[b]?=some (.cells c e (0,0))→e≠2→¬x.v.ownBlock=some b:=fun hb hne=>ownsRow_ne hrx hb hne
 have nr:∀{e:TypeId} {sz m:Nat} {u:Value} {xs:List Value},w4.ownsRow 0 e sz u m xs→e≠2→∀b,u.ownBlock=some b→¬x.v.ownBlock=some b:=fun hr' hne b hb e=>rows_ne hr' hrx hne hb e
 have h5o0:=box_old h4.o0 hk5 (nx h4.o0 (by decide))
 have h5o1:=box_old h4.o1 hk5 (nx h4.o1 (by decide))
 have h5b:=box_old h4.blk hk5 (nx h4.blk (by decide))
 have kg:Keeps (fun i=>i=g1) w5 (w5.setCell ⟨g1,k,none⟩ x'.v):=Keeps.setCell _ _ _ rfl
 have gb:∀{e:TypeId} {sz m:Nat} {u:Value} {xs:List Value},w5.ownsRow 0 e sz u m xs→22≠e→∀b,u.ownBlock=some b→¬b=g1:=fun hr' hne b hb e=>by subst e;exact ownsRow_ne hr' h5o1 hne hb
 have hBg:¬B=g1:=fun e=>by
  have h1:=h5b;rw [e,h5o1] at h1
  injection h1 with h1
  injection h1 with _ h1 _
  exact absurd h1 (by decide)
 have r5:∀{e:TypeId} {sz m:Nat} {u:Value} {xs:List Value},w4.ownsRow 0 e sz u m xs→(∀b,u.ownBlock=some b→¬x.v.ownBlock=some b)→22≠e→(w5.setCell ⟨g1,k,none⟩ x'.v).ownsRow 0 e sz u m xs:=fun hr' hd hne=>kg.row (hk5.row hr' hd) (gb (hk5.row hr' hd) hne)
 have hmem:∀(j:Nat) (y:SI),(S1.set k x')[j]?=some y→(j=k∧y=x')∨(j≠k∧S1[j]?=some y):=fun j y hy=>by
  by_cases e:j=k
  ·subst e;rw [List.getElem?_set_self hkl] at hy;simp only [Option.some.injEq] at hy;exact .inl ⟨rfl,hy.symm⟩
  ·rw [List.getElem?_set_ne (fun h=>e h.symm)] at hy;exact .inr ⟨e,hy⟩
 have hmem2:∀y∈S1.set k x',y=x'∨∃j,j≠k∧S1[j]?=some y:=fun y hy=>by
  obtain⟨j,hj⟩:=List.getElem?_of_mem hy
  rcases hmem j y hj with h|h
  ·exact .inl h.2
  ·exact .inr ⟨j,h⟩
 have hx2:∀y∈S0,∀b,x'.v.ownBlock=some b→y.v.ownBlock≠some b:=fun y hy b hb e=>by
  rcases hnewb b hb with h1|h1
  ·exact h.d01 y x hy hxm b e h1
  ·have:=own_lt (h.i0 y hy) e;omega
 exact { h4 with
  blk:=box_old h5b kg hBg
  trs:=(h4.trs.keeps hk5 (fun b hb e=>by have:=(h.wt b hb).1;have:=(h.wi1 x hxm b e).1;omega)).keeps kg (fun b hb e=>by have e':b=g1:=e;have:=(h.wt b hb).1;have:=h.w1'.1;omega)
  evs:=r5 h4.evs (nr h4.evs (by decide)) (by decide)
  bal:=r5 h4.bal (fun b hb e=>(h.db1 x hxm b e).1 hb) (by decide)
  rts:=r5 h4.rts (fun b hb e=>(h.db1 x hxm b e).2 hb) (by decide)
  o1:=si_set x' h5o1
  o0:=box_old h5o0 kg (fun e=>h.g01 e)
  i1:=fun y hy=>by
   rcases hmem2 y hy with rfl|⟨j,hj,hjy⟩
   ·exact kg.row hr (gb hr (by decide))
   ·exact r5 (h4.i1 y (List.mem_of_getElem? hjy)) (fun b hb e=>h.d11 j k y x hjy hx hj b hb e) (by decide)
  i0:=fun y hy=>r5 (h4.i0 y hy) (fun b hb e=>h.d01 y x hy hxm b hb e) (by decide)
  out:=r5 h4.out (nr h4.out (by decide)) (by decide)
  ln:=fun y hy=>r5 (h4.ln y hy) (nr (h4.ln y hy) (by decide)) (by decide)
  l1:=by rw [List.map_set,h.l1,hL]
  n1:=by rw [List.length_set];exact h.n1
  d11:=fun i j y z hy hz hne b hb=>by
   rcases hmem i y hy with⟨rfl,rfl⟩|⟨h1,h2⟩
   ·rcases hmem j z hz with⟨rfl,rfl⟩|⟨h3,h4'⟩
    ·exact absurd rfl hne
    ·rcases hnewb b hb with h5|h5
     ·exact h.d11 i j x z hx h4' hne b h5
     ·intro e;have:=own_lt (h.i1 z (List.mem_of_getElem? h4')) e;omega
   ·rcases hmem j z hz with⟨rfl,rfl⟩|⟨h3,h4'⟩
    ·intro e
     rcases hnewb b e with h5|h5
     ·exact h.d11 i j y x h2 hx hne b hb h5
     ·have:=own_lt (h.i1 y (List.mem_of_getElem? h2)) hb;omega
    ·exact h.d11 i j y z h2 h4' hne b hb
  d01:=fun y z hy hz b hb=>by
   rcases hmem2 z hz with rfl|⟨j,hj,hjz⟩
   ·intro e;exact hx2 y hy b e hb
   ·exact h.d01 y z hy (List.mem_of_getElem? hjz) b hb
  db1:=fun y hy b hb=>by
   rcases hmem2 y hy with rfl|⟨j,hj,hjy⟩
   ·rcases hnewb b hb with h5|h5
    ·exact h.db1 x hxm b h5
    ·exact⟨fun e=>by have:=own_lt h.bal e;omega,fun e=>by have:=own_lt h.rts e;omega⟩
   ·exact h.db1 y (List.mem_of_getElem? hjy) b hb
  wi1:=fun y hy b hb=>by
   rcases hmem2 y hy with rfl|⟨j,hj,hjy⟩
   ·rcases hnewb b hb with h5|h5
    ·exact h.wi1 x hxm b h5
    ·exact h.new h5
   ·exact h.wi1 y (List.mem_of_getElem? hjy) b hb
  xl:=fun b hb=>Nat.lt_of_lt_of_le (Nat.lt_of_lt_of_le (h4.xl b hb) hs5) kg.size
  fz:=fun b hb=>((kg.block b (Nat.lt_of_lt_of_le (h4.xl b (h4.yx b hb)) hs5) (fun e=>by have e':b=g1:=e;exact h.w1'.2 (e'▸h.yx b hb))).trans (hk5.block b (h4.xl b (h4.yx b hb)) (fun e=>(h.wi1 x hxm b e).2 (h.yx b hb)))).trans (h4.fz b hb)
  kp:=(h4.kp.trans (hk5.mono fun i _ e=> .inr (h.wi1 x hxm i e).1)).trans (kg.mono fun i _ e=> .inr (by have e':i=g1:=e;rw [e'];exact h.w1'.1)) }
end
def extL(E:List (List Int))(V:List Int)(k:Nat):List (List Int):=(List.zipWith (fun r v=>r++ [v]) E V).take k++E.drop k
theorem extL_zero(E:List (List Int))(V:List Int):extL E V 0=E:=by simp [extL]
theorem extL_full{E:List (List Int)}{V:List Int}{n:Nat}(h:V.length=n)(hn:E.length=n):extL E V n=List.zipWith (fun r v=>r++ [v]) E V:=by
 unfold extL
 rw [List.take_of_length_le (by rw [List.length_zipWith];omega),List.drop_eq_nil_of_le (by omega),List.append_nil]
theorem extL_get{E:List (List Int)}{V:List Int}(h:V.length=E.length){k:Nat}{r:List Int}(hr:E[k]?=some r):(extL E V k)[k]?=some r:=by
 have hk:=lt_of_get hr
 unfold extL
 rw [List.getElem?_append_right (by rw [List.length_take,List.length_zipWith];omega),List.length_take,List.length_zipWith,List.getElem?_drop,show k+(k-min k (min E.length V.length))=k by omega]
 exact hr
theorem extL_set{E:List (List Int)}{V:List Int}(h:V.length=E.length){k:Nat}{r:List Int}{v:Int}(hr:E[k]?=some r)(hv:V[k]?=some v):(extL E V k).set k (r++ [v])=extL E V (k+1):=by
 have hk:=lt_of_get hr
 unfold extL
 have hl:((List.zipWith (fun r v=>r++ [v]) E V).take k).length=k:=by rw [List.length_take,List.length_zipWith];omega
 rw [List.set_append_right _ _ (by omega),hl,Nat.sub_self]
 have hd:E.drop k=r::E.drop (k+1):=drop_cons' hr
 have hz:(List.zipWith (fun r v=>r++ [v]) E V)[k]?=some (r++ [v]):=by rw [List.getElem?_zipWith,hr,hv]
 rw [hd,List.set_cons_zero,take_snoc' hz,List.append_assoc]
 rfl
end Go.Proofs.YthcmpcekmkioaaaGreat
namespace Go.Proofs.YthcmpcekmkioaaaGreat
open Go.RowKit
def enS(B j g k:Nat)(vg vx:Value)(jb:Nat)(vb:Value)(gb ob:Nat)(v:Int)(W:World):Prop:=W.cell? ⟨B,j,none⟩=some vg∧W.cell? ⟨g,k,none⟩=some vx∧W.cell? ⟨B,jb,none⟩=some vb∧W.cell? ⟨gb,ob,none⟩=some (.int .i64 v)
theorem enS.keep{B j g k:Nat}{vg vx:Value}{jb:Nat}{vb:Value}{gb ob:Nat}{v:Int}{W W':World}{S:Nat→Prop}(h:enS B j g k vg vx jb vb gb ob v W)(hk:Keeps S W W')(h1:¬S B)(h2:¬S g)(h3:¬S gb):enS B j g k vg vx jb vb gb ob v W':=
 ⟨(hk.cell (cell_lt h.1) h1).trans h.1,(hk.cell (cell_lt h.2.1) h2).trans h.2.1,(hk.cell (cell_lt h.2.2.1) h1).trans h.2.2.1,(hk.cell (cell_lt h.2.2.2) h3).trans h.2.2.2⟩
def endSt(s:St)(k j:Nat):St:={ s with e0:=extL s.e0 s.p.bal k,e1:=extL s.e1 s.R j }
set_option maxRecDepth 100000
set_option maxHeartbeats 3200000
theorem runEnd_nil{w0:World}{X:Fx}{B:Nat}{t:Tm}{n:Nat}{vt:Value}{L:List Ev}{f0 f2:Value}{s:St}{vl vb vr:Value}{g0 g1:Nat}{S0 S1:List SI}{vo:Value}{P:List SV}{W:World}(h:RunV w0 X B t n vt L f0 .nilFunc f2 s vl vb vr g0 g1 S0 S1 vo P W)(hn:n≤1000)
  (hle0:∀r∈s.e0,r.length≤100000) (hle1:∀r∈s.e1,r.length≤100000):
  Calls Tryz.prog 67 #[(.pointer (some ⟨B,0,none⟩))] W fun e W'=>e= .returned (.tuple #[])∧∃S0' S1',RunV w0 X B t n vt L f0 .nilFunc f2 (endSt s n n) vl vb vr g0 g1 S0' S1' vo P W':=by
 obtain⟨i0,hi,hi0,hi1,hi2⟩:=info_parts info_tInt64
 obtain⟨ab,cb,rfl⟩:∃a c,vb= .slice a n c:=by obtain⟨a,c,h,_⟩:=ownsRow_shape h.bal;exact⟨a,c,h⟩
 obtain⟨ar,cr,rfl⟩:∃a c,vr= .slice a n c:=by obtain⟨a,c,h,_⟩:=ownsRow_shape h.rts;exact⟨a,c,h⟩
 have hl0:s.p.bal.length=s.e0.length:=by rw [h.nb,←h.l0,List.length_map,h.n0]
 have hl1:s.R.length=s.e1.length:=by rw [h.nr,←h.l1,List.length_map,h.n1]
 have hst:RunV w0 X B t n vt L f0 .nilFunc f2 (endSt s 0 0) vl (.slice ab n cb) (.slice ar n cr) g0 g1 S0 S1 vo P W:=by
  unfold endSt;rw [extL_zero,extL_zero];exact h
 have hbn:=h.nb
 have hrn:=h.nr
 have he0:s.e0.length=n:=by rw [←hl0];exact hbn
 have he1:s.e1.length=n:=by rw [←hl1];exact hrn
 have c13:=cell_of_cells h.blk 13
 have bl:=lt_of_block h.blk
 obtain⟨H,Hi,Hi0,Hi1,Hi2,Hle0,Hle1,Hl0,Hl1⟩:=hid9 h hi hi0 hi1 hi2 hle0 hle1 hl0 hl1;clear hl1 hl0 hle1 hle0 hi2 hi1 hi0 hi h;obtain⟨Hst,Hbn,Hrn,He0,He1⟩:=hid5 hst hbn hrn he0 he1;clear he1 he0 hrn hbn hst
 go_enter Tryz.func67,Tryz.ntmps67
 go_wp2
 clear c13 bl
 go_loopw [8] (fun x wx=>∃(k:Nat) (S0' S1':List SI),x= .int .i64 (k:Nat)∧k≤n∧RunV w0 X B t n vt L f0 .nilFunc f2 (endSt s k k) vl (.slice ab n cb) (.slice ar n cr) g0 g1 S0' S1' vo P wx) (fun x _=>n-(intOf x).toNat)
 case atStart=>exact⟨0,S0,S1,rfl,Nat.zero_le _,Hst.out⟩
 case round=>
  obtain⟨k,S0',S1',rfl,hkn,hrv⟩:=hrel
  obtain⟨wq,hwq⟩:∃x,x=wr:=⟨_,rfl⟩
  subst hwq
  by_cases hlt:k<n
  ·have hltI:(k:Int)<(n:Int):=by omega
   obtain⟨r0,hr0⟩:=get_some (L:=s.e0) (k:=k) (by rw [He0.out];exact hlt)
   obtain⟨r1,hr1⟩:=get_some (L:=s.e1) (k:=k) (by rw [He1.out];exact hlt)
   obtain⟨v0,hv0⟩:=get_some (L:=s.p.bal) (k:=k) (by rw [Hbn.out];exact hlt)
   obtain⟨v1,hv1⟩:=get_some (L:=s.R) (k:=k) (by rw [Hrn.out];exact hlt)
   have hr0:=Lib.hid hr0
   have hr1:=Lib.hid hr1
   have Hv0:=Lib.hid hv0
   have Hv1:=Lib.hid hv1
   have hle0:=Hle0
   have hle1:=Hle1
   clear hv0 hv1
   have Hrv:=Lib.hid hrv
   clear hrv
   obtain⟨⟨ax,cx,Lx⟩,hx⟩:=get_some (L:=S0') (k:=k) (by rw [Hrv.out.n0];exact hlt)
   have hxL:Lx=r0:=by
    have h1:=congrArg (fun l=>l[k]?) Hrv.out.l0
    simp only [List.getElem?_map,hx,Option.map_some,endSt] at h1
    rw [extL_get Hl0.out hr0.out] at h1
    simpa using h1
   subst hxL
   obtain⟨gb,ob,heb,cb0⟩:=(Reads.of_owns Hrv.out.bal).int (k:= .i64) Hv0.out
   subst heb
   obtain⟨m,hm⟩:∃m,Lx.length=m:=⟨_,rfl⟩
   have hm1:m≤100000:=by rw [←hm];exact hle0.out _ (List.mem_of_getElem? hr0.out)
   have hxv0:(⟨ax,cx,Lx⟩:SI).v= .slice ax m cx:=by simp only [SI.v,hm]
   have hxm:=List.mem_of_getElem? hx
   have hrx:=Hrv.out.i0 _ hxm
   rw [hxv0] at hrx
   simp only [hm] at hrx
   have hS3:enS B 14 g0 k (.slice (some ⟨g0,0,none⟩) n n) (.slice ax m cx) 10 (.slice (some ⟨gb,ob,none⟩) n cb) gb (ob+k) v0 (wq).drew:=(show enS B 14 g0 k (.slice (some ⟨g0,0,none⟩) n n) (.slice ax m cx) 10 (.slice (some ⟨gb,ob,none⟩) n cb) gb (ob+k) v0 (wq) from⟨cell_of_cells Hrv.out.blk 14,hxv0▸si_cell Hrv.out.o0 hx,cell_of_cells Hrv.out.blk 10,cb0⟩).keep (S:=fun _=>False) (Keeps.drew _) (by simp) (by simp) (by simp)
   have hdb:=Hrv.out.db0 _ hxm
   rw [hxv0] at hdb
   have cbl:=cell_lt cb0
   clear cb0
   obtain⟨Hx,Hm,Hxv0,Hxm,Hrx,HS3,Hdb⟩:=hid7 hx hm hxv0 hxm hrx hS3 hdb;clear hdb hS3 hrx hxm hxv0 hm hx
   go_wp2_with fail
   refine wp_region_mixz (enS B 14 g0 k (.slice (some ⟨g0,0,none⟩) n n) (.slice ax m cx) 10 (.slice (some ⟨gb,ob,none⟩) n cb) gb (ob+k) v0) 25 (.take 0 (.take 1 (.take 2 (.take 3 (.take 4 (.take 5 (.take 6 (.take 7 (.take 8 (.take 9 (.take 10 (.take 11 (.take 12 (.take 13 (.take 14 (.take 15 (.take 16 (.take 17 (.take 18 (.take 19 (.take 20 (.take 21 (.move 22 (.move 23 (.take 24 (.move 25 .done)))))))))))))))))))))))))) (by kernel_rfl) (by kernel_rfl) ?_ ?_
   ·exact HS3.out
   intro w8 hs8 hk8
   repeat (first
    |(refine mix_skip rfl (by rfl) ?_;try simp only [Act.put,List.setIfInBounds_toArray,List.set_cons_zero,List.set_cons_succ])
    |(refine mix_skipm rfl (by rfl) ?_;try simp only [Act.put,List.setIfInBounds_toArray,List.set_cons_zero,List.set_cons_succ])
    |(refine mix_take (v:= ?_) rfl (by rfl) ?_ ?_;rotate_left;(· intro w' hSw;unfold enS at hSw;go_simp;(try with_reducible rfl));rotate_right;try simp only [Act.put,List.setIfInBounds_toArray,List.set_cons_zero,List.set_cons_succ]))
   refine mix_move rfl (fun K hK=> ?_)
   go_simp
   refine hK.out _ _ (by exact hs8.keep (S:=fun _=>False) (Keeps.alloc _ _) (by simp) (by simp) (by simp)) ?_
   clear hK K
   try simp only [Act.put,List.setIfInBounds_toArray,List.set_cons_zero,List.set_cons_succ]
   have hk8a:=hk8.nt (Keeps.alloc w8 (.cells #[.int .i64 v0] 2))
   have h8a:=Hrv.out.keep0 hk8a
   refine mix_move rfl (fun K hK=> ?_)
   refine step_append_row rfl (.tmp 24) (.tmp 33) 22 rfl 0 2 i0 _ 1 8 Tryz.underlying22 Hi.out Hi0.out Hi1.out Hi2.out rfl (by decide) (.slice ax m cx) m _ rfl (Hrx.out.of_keeps hk8a) _ 1 _ rfl (Reads.litAt _ _ _ 1 1 _ (by first|rfl|simp) rfl) (by simp [Value.oneCell']) (by unfold maxLen;omega) (by omega) (Nat.zero_le _) ?_
   intro v9 w9 hown9 hk9 hf9
   obtain⟨a9,c9,rfl,_,_⟩:=ownsRow_shape hown9
   have hrx8:=Hrx.out.of_keeps hk8a
   have o9:=box_old h8a.o0 hk9 (fun e=>ownsRow_ne hrx8 h8a.o0 (by decide) e)
   have hsb:¬(Value.slice ax m cx).ownBlock=some B:=fun e=>ownsRow_ne hrx8 h8a.blk (by decide) e
   have hsg:¬(Value.slice ax m cx).ownBlock=some g0:=fun e=>ownsRow_ne hrx8 h8a.o0 (by decide) e
   have hsv:¬(Value.slice ax m cx).ownBlock=some gb:=fun e=>(Hdb.out gb e).1 rfl
   have hlen:(Lx++ [v0]).length=m+1:=by rw [List.length_append,Hm.out];rfl
   have hxv:(⟨a9,c9,Lx++ [v0]⟩:SI).v= .slice a9 (m+1) c9:=by simp only [SI.v,hlen]
   have hext:=Hrv.out.ext0 (x':=⟨a9,c9,Lx++ [v0]⟩) Hx.out hk8a (by rw [Hxv0.out];exact hk9) (by rw [hxv];show w9.ownsRow 0 _ 1 _ (Lx++ [v0]).length _;rw [hlen];simpa [i64c] using hown9) rfl (by rw [hxv,Hxv0.out];exact hf9)
   rw [hxv] at hext
   simp only [endSt] at hext
   rw [extL_set Hl0.out hr0.out Hv0.out] at hext
   replace hext:=(show RunV w0 X B t n vt L f0 .nilFunc f2 (endSt s (k+1) k) vl _ _ g0 g1 _ _ vo P _ from hext)
   have of9:=free_of_cells o9 k
   have oc9:w9.cell? ⟨g0,k,none⟩=some (.slice ax m cx):=by rw [←Hxv0.out];exact si_cell o9 Hx.out
   have ol9:=lt_of_block o9
   refine hK.out _ _ (by exact(hs8.keep (S:=fun _=>False) (Keeps.alloc _ _) (by simp) (by simp) (by simp)).keep hk9 hsb hsg hsv) ?_
   clear hK K
   try simp only [Act.put,List.setIfInBounds_toArray,List.set_cons_zero,List.set_cons_succ]
   obtain⟨O9,Hsb,Hsg,Hsv,Hlen,Hxv,Hext,Hown9,Hk9⟩:=hid9 o9 hsb hsg hsv hlen hxv hext hown9 hk9;clear hk9 hown9 hext hxv hlen hsv hsg hsb o9;obtain⟨Hk8a,Hk8,H8a,Hrx8⟩:=hid4 hk8a hk8 h8a hrx8;clear hrx8 h8a hk8 hk8a
   clear hs8 hf9
   repeat (first
    |(refine mix_skip rfl (by rfl) ?_;try simp only [Act.put,List.setIfInBounds_toArray,List.set_cons_zero,List.set_cons_succ])
    |(refine mix_skipm rfl (by rfl) ?_;try simp only [Act.put,List.setIfInBounds_toArray,List.set_cons_zero,List.set_cons_succ])
    |(refine mix_take (v:= ?_) rfl (by rfl) ?_ ?_;rotate_left;(· intro w' hSw;unfold enS at hSw;go_simp;(try with_reducible rfl));rotate_right;try simp only [Act.put,List.setIfInBounds_toArray,List.set_cons_zero,List.set_cons_succ]))
   refine mix_last rfl (fun K hK=> ?_)
   go_simp
   refine hK.out _ _ ?_
   clear hK K
   try simp only [Act.put,List.setIfInBounds_toArray,List.set_cons_zero,List.set_cons_succ]
   refine mix_done ?_
   clear of9 oc9 ol9 cbl
   obtain⟨W0',hW0'⟩:∃x,x=w9.setCell ⟨g0,k,none⟩ (.slice a9 (m+1) c9):=⟨_,rfl⟩
   rw [←hW0'] at Hext⊢
   clear hW0'
   have Hrv2:=Hext
   clear Hext Hx Hm Hxv0 Hxm Hrx HS3 Hdb
   clear hm1
   obtain⟨⟨ax,cx,Lx⟩,hx⟩:=get_some (L:=S1') (k:=k) (by rw [Hrv2.out.n1];exact hlt)
   have hxL:Lx=r1:=by
    have h1:=congrArg (fun l=>l[k]?) Hrv2.out.l1
    simp only [List.getElem?_map,hx,Option.map_some,endSt] at h1
    rw [extL_get Hl1.out hr1.out] at h1
    simpa using h1
   subst hxL
   obtain⟨gb,ob,heb,cb0⟩:=(Reads.of_owns Hrv2.out.rts).int (k:= .i64) Hv1.out
   subst heb
   obtain⟨m,hm⟩:∃m,Lx.length=m:=⟨_,rfl⟩
   have hm1:m≤100000:=by rw [←hm];exact hle1.out _ (List.mem_of_getElem? hr1.out)
   have hxv0:(⟨ax,cx,Lx⟩:SI).v= .slice ax m cx:=by simp only [SI.v,hm]
   have hxm:=List.mem_of_getElem? hx
   have hrx:=Hrv2.out.i1 _ hxm
   rw [hxv0] at hrx
   simp only [hm] at hrx
   have hS3:enS B 15 g1 k (.slice (some ⟨g1,0,none⟩) n n) (.slice ax m cx) 13 (.slice (some ⟨gb,ob,none⟩) n cr) gb (ob+k) v1 (W0').drew:=(show enS B 15 g1 k (.slice (some ⟨g1,0,none⟩) n n) (.slice ax m cx) 13 (.slice (some ⟨gb,ob,none⟩) n cr) gb (ob+k) v1 (W0') from⟨cell_of_cells Hrv2.out.blk 15,hxv0▸si_cell Hrv2.out.o1 hx,cell_of_cells Hrv2.out.blk 13,cb0⟩).keep (S:=fun _=>False) (Keeps.drew _) (by simp) (by simp) (by simp)
   have hdb:=Hrv2.out.db1 _ hxm
   rw [hxv0] at hdb
   have cbl:=cell_lt cb0
   clear cb0
   obtain⟨Hx,Hm,Hxv0,Hxm,Hrx,HS3,Hdb⟩:=hid7 hx hm hxv0 hxm hrx hS3 hdb;clear hdb hS3 hrx hxm hxv0 hm hx
   go_wp2_with fail
   refine wp_region_mixz (enS B 15 g1 k (.slice (some ⟨g1,0,none⟩) n n) (.slice ax m cx) 13 (.slice (some ⟨gb,ob,none⟩) n cr) gb (ob+k) v1) 24 (.take 0 (.take 1 (.take 2 (.take 3 (.take 4 (.take 5 (.take 6 (.take 7 (.take 8 (.take 9 (.take 10 (.take 11 (.take 12 (.take 13 (.take 14 (.take 15 (.take 16 (.take 17 (.take 18 (.take 19 (.take 20 (.move 21 (.move 22 (.take 23 (.move 24 .done))))))))))))))))))))))))) (by kernel_rfl) (by kernel_rfl) ?_ ?_
   ·exact HS3.out
   intro w8 hs8 hk8
   repeat (first
    |(refine mix_skip rfl (by rfl) ?_;try simp only [Act.put,List.setIfInBounds_toArray,List.set_cons_zero,List.set_cons_succ])
    |(refine mix_skipm rfl (by rfl) ?_;try simp only [Act.put,List.setIfInBounds_toArray,List.set_cons_zero,List.set_cons_succ])
    |(refine mix_take (v:= ?_) rfl (by rfl) ?_ ?_;rotate_left;(· intro w' hSw;unfold enS at hSw;go_simp;(try with_reducible rfl));rotate_right;try simp only [Act.put,List.setIfInBounds_toArray,List.set_cons_zero,List.set_cons_succ]))
   refine mix_move rfl (fun K hK=> ?_)
   go_simp
   refine hK.out _ _ (by exact hs8.keep (S:=fun _=>False) (Keeps.alloc _ _) (by simp) (by simp) (by simp)) ?_
   clear hK K
   try simp only [Act.put,List.setIfInBounds_toArray,List.set_cons_zero,List.set_cons_succ]
   have hk8a:=hk8.nt (Keeps.alloc w8 (.cells #[.int .i64 v1] 2))
   have h8a:=Hrv2.out.keep0 hk8a
   refine mix_move rfl (fun K hK=> ?_)
   refine step_append_row rfl (.tmp 49) (.tmp 57) 22 rfl 0 2 i0 _ 1 8 Tryz.underlying22 Hi.out Hi0.out Hi1.out Hi2.out rfl (by decide) (.slice ax m cx) m _ rfl (Hrx.out.of_keeps hk8a) _ 1 _ rfl (Reads.litAt _ _ _ 1 1 _ (by first|rfl|simp) rfl) (by simp [Value.oneCell']) (by unfold maxLen;omega) (by omega) (Nat.zero_le _) ?_
   intro v9 w9 hown9 hk9 hf9
   obtain⟨a9,c9,rfl,_,_⟩:=ownsRow_shape hown9
   have hrx8:=Hrx.out.of_keeps hk8a
   have o9:=box_old h8a.o1 hk9 (fun e=>ownsRow_ne hrx8 h8a.o1 (by decide) e)
   have hsb:¬(Value.slice ax m cx).ownBlock=some B:=fun e=>ownsRow_ne hrx8 h8a.blk (by decide) e
   have hsg:¬(Value.slice ax m cx).ownBlock=some g1:=fun e=>ownsRow_ne hrx8 h8a.o1 (by decide) e
   have hsv:¬(Value.slice ax m cx).ownBlock=some gb:=fun e=>(Hdb.out gb e).2 rfl
   have hlen:(Lx++ [v1]).length=m+1:=by rw [List.length_append,Hm.out];rfl
   have hxv:(⟨a9,c9,Lx++ [v1]⟩:SI).v= .slice a9 (m+1) c9:=by simp only [SI.v,hlen]
   have hext:=Hrv2.out.ext1 (x':=⟨a9,c9,Lx++ [v1]⟩) Hx.out hk8a (by rw [Hxv0.out];exact hk9) (by rw [hxv];show w9.ownsRow 0 _ 1 _ (Lx++ [v1]).length _;rw [hlen];simpa [i64c] using hown9) rfl (by rw [hxv,Hxv0.out];exact hf9)
   rw [hxv] at hext
   simp only [endSt] at hext
   rw [extL_set Hl1.out hr1.out Hv1.out] at hext
   replace hext:=(show RunV w0 X B t n vt L f0 .nilFunc f2 (endSt s (k+1) (k+1)) vl _ _ g0 g1 _ _ vo P _ from hext)
   have of9:=free_of_cells o9 k
   have oc9:w9.cell? ⟨g1,k,none⟩=some (.slice ax m cx):=by rw [←Hxv0.out];exact si_cell o9 Hx.out
   have ol9:=lt_of_block o9
   refine hK.out _ _ (by exact(hs8.keep (S:=fun _=>False) (Keeps.alloc _ _) (by simp) (by simp) (by simp)).keep hk9 hsb hsg hsv) ?_
   clear hK K
   try simp only [Act.put,List.setIfInBounds_toArray,List.set_cons_zero,List.set_cons_succ]
   obtain⟨O9,Hsb,Hsg,Hsv,Hlen,Hxv,Hext,Hown9,Hk9⟩:=hid9 o9 hsb hsg hsv hlen hxv hext hown9 hk9;clear hk9 hown9 hext hxv hlen hsv hsg hsb o9;obtain⟨Hk8a,Hk8,H8a,Hrx8⟩:=hid4 hk8a hk8 h8a hrx8;clear hrx8 h8a hk8 hk8a
   clear hs8 hf9
   repeat (first
    |(refine mix_skip rfl (by rfl) ?_;try simp only [Act.put,List.setIfInBounds_toArray,List.set_cons_zero,List.set_cons_succ])
    |(refine mix_skipm rfl (by rfl) ?_;try simp only [Act.put,List.setIfInBounds_toArray,List.set_cons_zero,List.set_cons_succ])
    |(refine mix_take (v:= ?_) rfl (by rfl) ?_ ?_;rotate_left;(· intro w' hSw;unfold enS at hSw;go_simp;(try with_reducible rfl));rotate_right;try simp only [Act.put,List.setIfInBounds_toArray,List.set_cons_zero,List.set_cons_succ]))
   refine mix_last rfl (fun K hK=> ?_)
   go_simp
   refine hK.out _ _ ?_
   clear hK K
   try simp only [Act.put,List.setIfInBounds_toArray,List.set_cons_zero,List.set_cons_succ]
   refine mix_done ?_
   clear of9 oc9 ol9 cbl
   obtain⟨W1',hW1'⟩:∃x,x=w9.setCell ⟨g1,k,none⟩ (.slice a9 (m+1) c9):=⟨_,rfl⟩
   rw [←hW1'] at Hext⊢
   clear hW1'
   go_wp2_with fail
   go_roundw
   case rel=>exact⟨k+1,_,_,by go_num,by omega,Hext.out⟩
   case measure=>simp [intOf];omega
  ·obtain rfl:n=k:=by omega
   have hb18:=cell_of_cells hrv.blk 18
   have bl:=lt_of_block hrv.blk
   have hnil:∀w:World,(binOp .neq 71 .nilFunc .nilFunc).run Tryz.prog w= .ok (.bool false) w:=fun _=>by kernel_rfl
   have Hrv:=Lib.hid hrv;clear hrv
   go_wp2
   go_end0
   exact⟨rfl,_,_,Hrv.out⟩
end Go.Proofs.YthcmpcekmkioaaaGreat
namespace Go.Proofs.YthcmpcekmkioaaaGreat
open Go.RowKit
section
variable {w0:World} {X:Fx} {B:Nat} {t:Tm} {n:Nat} {vt:Value} {L:List Ev} {f0 f1 f2:Value} {s:St} {vl vb vr:Value} {g0 g1:Nat} {S0 S1:List SI} {vo:Value} {P:List SV} {W W':World}
theorem RunV.upd(h:RunV w0 X B t n vt L f0 f1 f2 s vl vb vr g0 g1 S0 S1 vo P W){W2:World}(hk0:Keeps (fun _=>False) W W2)(hk:Keeps (fun i=>i=B) W2 W'){i':Nat}{day':Int}{p':Ps}{R':List Int}{vb' vr':Value}
  (hb:W'.heap[B]?=some (.cells #[.int .i64 t.limit,vt, .int .i64 t.cyc, .int .i64 t.due, .int .i64 t.minFixed, .int .i64 t.minPart, .int .i64 t.start,vl, .int .i64 (i':Nat), .int .i64 day',vb', .int .i64 p'.cr, .int .i64 p'.du,vr', .slice (some ⟨g0,0,none⟩) n n, .slice (some ⟨g1,0,none⟩) n n,vo,f0,f1,f2] 110 (0,0)))
  (hvb:W2.ownsRow 0 2 1 vb' n (p'.bal.flatMap i64c)) (hvr:W2.ownsRow 0 2 1 vr' n (R'.flatMap i64c)) (hnb:p'.bal.length=n) (hnr:R'.length=n)
  (qb:vb'=vb∨∀b,vb'.ownBlock=some b→W.heap.size≤b) (qr:vr'=vr∨∀b,vr'.ownBlock=some b→W.heap.size≤b):
  RunV w0 X B t n vt L f0 f1 f2 { s with i:=i',day:=day',p:=p',R:=R' } vl vb' vr' g0 g1 S0 S1 vo P W':=by
 have h2:=h.keep0 hk0
 have hne:∀{e:TypeId} {sz m:Nat} {v:Value} {xs:List Value},W2.ownsRow 0 e sz v m xs→110≠e→∀i,v.ownBlock=some i→¬i=B:=fun hr hne i hi e=>by subst e;exact ownsRow_ne hr h2.blk hne hi
 have nog:∀{g:Nat} {c:Array Value},W2.heap[g]?=some (.cells c 22 (0,0))→¬g=B:=fun hg e=>by
  subst e
  have h1:=h2.blk
  rw [hg] at h1
  injection h1 with h1
  injection h1 with _ h1 _
  exact absurd h1 (by decide)
 exact { h2 with
  blk:=hb
  trs:=h2.trs.keeps hk (fun i hi e=>by have e':i=B:=e;have:=(h.wt i hi).1;have:=h.wB.1;omega)
  evs:=hk.row h2.evs (hne h2.evs (by decide))
  bal:=hk.row hvb (hne hvb (by decide))
  rts:=hk.row hvr (hne hvr (by decide))
  o0:=box_old h2.o0 hk (nog h2.o0)
  o1:=box_old h2.o1 hk (nog h2.o1)
  i0:=fun x hx=>hk.row (h2.i0 x hx) (hne (h2.i0 x hx) (by decide))
  i1:=fun x hx=>hk.row (h2.i1 x hx) (hne (h2.i1 x hx) (by decide))
  out:=hk.row h2.out (hne h2.out (by decide))
  ln:=fun x hx=>hk.row (h2.ln x hx) (hne (h2.ln x hx) (by decide))
  nb:=hnb
  nr:=hnr
  db0:=fun x hx b hb=>⟨fun e=>by
   rcases qb with rfl|qb
   ·exact(h.db0 x hx b hb).1 e
   ·have:=qb b e;have:=own_lt (h.i0 x hx) hb;omega,fun e=>by
   rcases qr with rfl|qr
   ·exact(h.db0 x hx b hb).2 e
   ·have:=qr b e;have:=own_lt (h.i0 x hx) hb;omega⟩
  db1:=fun x hx b hb=>⟨fun e=>by
   rcases qb with rfl|qb
   ·exact(h.db1 x hx b hb).1 e
   ·have:=qb b e;have:=own_lt (h.i1 x hx) hb;omega,fun e=>by
   rcases qr with rfl|qr
   ·exact(h.db1 x hx b hb).2 e
   ·have:=qr b e;have:=own_lt (h.i1 x hx) hb;omega⟩
  wb:=by
   rcases qb with rfl|qb
   ·exact h.wb
   ·exact h.ownN qb
  wr:=by
   rcases qr with rfl|qr
   ·exact h.wr
   ·exact h.ownN qr
  xl:=fun b hb=>Nat.lt_of_lt_of_le (h2.xl b hb) hk.size
  fz:=fun b hb=>(hk.block b (h2.xl b (h2.yx b hb)) (fun e=>by have e':b=B:=e;exact h.wB.2 (e'▸h.yx b hb))).trans (h2.fz b hb)
  kp:=h2.kp.trans (hk.mono fun i _ e=> .inr (by have e':i=B:=e;rw [e'];exact h.wB.1)) }
theorem RunV.setI(h:RunV w0 X B t n vt L f0 f1 f2 s vl vb vr g0 g1 S0 S1 vo P W)(i':Nat):RunV w0 X B t n vt L f0 f1 f2 { s with i:=i' } vl vb vr g0 g1 S0 S1 vo P (W.setCell ⟨B,8,none⟩ (.int .i64 (i':Nat))):=
 h.upd (Keeps.refl _ _) (Keeps.setCell _ _ _ rfl) ((heap_setCell_same _ _ 8 _ _ _ h.blk).trans rfl) h.bal h.rts h.nb h.nr (.inl rfl) (.inl rfl)
theorem RunV.setDay(h:RunV w0 X B t n vt L f0 f1 f2 s vl vb vr g0 g1 S0 S1 vo P W)(d:Int):RunV w0 X B t n vt L f0 f1 f2 { s with day:=d } vl vb vr g0 g1 S0 S1 vo P (W.setCell ⟨B,9,none⟩ (.int .i64 d)):=
 h.upd (Keeps.refl _ _) (Keeps.setCell _ _ _ rfl) ((heap_setCell_same _ _ 9 _ _ _ h.blk).trans rfl) h.bal h.rts h.nb h.nr (.inl rfl) (.inl rfl)
theorem RunV.setP(h:RunV w0 X B t n vt L f0 f1 f2 s vl vb vr g0 g1 S0 S1 vo P W){W2:World}(hk0:Keeps (fun _=>False) W W2){p':Ps}{R':List Int}{vb' vr':Value}
  (hvb:W2.ownsRow 0 2 1 vb' n (p'.bal.flatMap i64c)) (hvr:W2.ownsRow 0 2 1 vr' n (R'.flatMap i64c)) (hnb:p'.bal.length=n) (hnr:R'.length=n)
  (qb:∀b,vb'.ownBlock=some b→W.heap.size≤b) (qr:∀b,vr'.ownBlock=some b→W.heap.size≤b):
  RunV w0 X B t n vt L f0 f1 f2 { s with p:=p',R:=R' } vl vb' vr' g0 g1 S0 S1 vo P ((((W2.setCell ⟨B,10,none⟩ vb').setCell ⟨B,11,none⟩ (.int .i64 p'.cr)).setCell ⟨B,12,none⟩ (.int .i64 p'.du)).setCell ⟨B,13,none⟩ vr'):=by
 have hb2:=(h.keep0 hk0).blk
 have h10:=(heap_setCell_same _ _ 10 _ _ vb' hb2).trans rfl
 have h11:=(heap_setCell_same _ _ 11 _ _ (.int .i64 p'.cr) h10).trans rfl
 have h12:=(heap_setCell_same _ _ 12 _ _ (.int .i64 p'.du) h11).trans rfl
 have h13:=(heap_setCell_same _ _ 13 _ _ vr' h12).trans rfl
 have k:Keeps (fun i=>i=B) W2 ((((W2.setCell ⟨B,10,none⟩ vb').setCell ⟨B,11,none⟩ (.int .i64 p'.cr)).setCell ⟨B,12,none⟩ (.int .i64 p'.du)).setCell ⟨B,13,none⟩ vr'):=
  (((Keeps.setCell (S:=fun i=>i=B) _ _ _ rfl).trans (Keeps.setCell _ _ _ (.inl rfl))).trans (Keeps.setCell _ _ _ (.inl rfl))).trans (Keeps.setCell _ _ _ (.inl rfl))
 exact h.upd hk0 k h13 hvb hvr hnb hnr (.inr qb) (.inr qr)
end
theorem payL_len{B R:List Int}{du a:Int}:(payL B R du a).1.length=B.length:=by
 unfold payL
 simp only [List.length_zipWith,intoL_length]
 omega
theorem applyR_ok{p:Ps}{R:List Int}{e:Ev}(h:(applyR p R e).2.2=0):(applyR p R e).1.bal.length=p.bal.length∧(applyR p R e).2.1.length=R.length∧(applyR p R e).1.rightB=true∧(∀x∈(applyR p R e).2.1,0≤x∧x≤10000000):=by
 unfold applyR at h⊢
 rcases hm:mayA p R e with _|_
 ·rw [hm,if_neg (by decide)] at h;cases h
 rw [hm,if_pos rfl] at h
 rw [if_pos rfl]
 have hmo:=mayA_ok hm
 by_cases hq:(applyQ p R e).2=0
 ·rw [if_pos hq] at h⊢
  refine⟨?_, ?_, ?_, ?_⟩
  ·show(applyQ p R e).1.bal.length=_
   unfold applyQ at hq⊢
   split at hq
   ·rename_i hk;rw [if_pos hk]
    unfold chargeR at hq⊢
    split at hq
    ·rename_i ha;rw [if_pos ha]
     split at hq
     ·rename_i hr;rw [if_pos hr];simp [chargeP]
     ·cases hq
    ·rename_i ha;exact absurd hq ha
   ·rename_i hk;rw [if_neg hk]
    split at hq
    ·rename_i hk2;rw [if_pos hk2]
     unfold payR at hq⊢
     split at hq
     ·rename_i ha;rw [if_pos ha]
      split at hq
      ·rename_i hr;rw [if_pos hr];simp only [payP,List.length_zipWith,payL_len];omega
      ·cases hq
     ·rename_i ha;exact absurd hq ha
    ·rename_i hk2;rw [if_neg hk2]
     split at hq
     ·rename_i hk3;rw [if_pos hk3]
      unfold giveR at hq⊢
      split at hq
      ·rename_i ha;rw [if_pos ha]
       split at hq
       ·rename_i hr;rw [if_pos hr];simp only [giveP,List.length_zipWith,intoL_length];omega
       ·cases hq
      ·rename_i ha;exact absurd hq ha
     ·rename_i hk3;rw [if_neg hk3]
  ·show(applyRt R e).length=_
   unfold applyRt;split<;>simp
  ·show(applyQ p R e).1.rightB=true
   unfold applyQ at hq⊢
   split at hq
   ·rename_i hk;rw [if_pos hk]
    unfold chargeR at hq⊢
    split at hq
    ·rename_i ha;rw [if_pos ha]
     split at hq
     ·rename_i hr;rw [if_pos hr];exact hr
     ·cases hq
    ·rename_i ha;exact absurd hq ha
   ·rename_i hk;rw [if_neg hk]
    split at hq
    ·rename_i hk2;rw [if_pos hk2]
     unfold payR at hq⊢
     split at hq
     ·rename_i ha;rw [if_pos ha]
      split at hq
      ·rename_i hr;rw [if_pos hr];exact hr
      ·cases hq
     ·rename_i ha;exact absurd hq ha
    ·rename_i hk2;rw [if_neg hk2]
     split at hq
     ·rename_i hk3;rw [if_pos hk3]
      unfold giveR at hq⊢
      split at hq
      ·rename_i ha;rw [if_pos ha]
       split at hq
       ·rename_i hr;rw [if_pos hr];exact hr
       ·cases hq
      ·rename_i ha;exact absurd hq ha
     ·rename_i hk3;rw [if_neg hk3];exact hmo.pr
  ·show∀x∈applyRt R e,_
   intro x hx
   unfold applyRt at hx
   split at hx
   ·rename_i hk
    rcases List.mem_or_eq_of_mem_set hx with h1|rfl
    ·exact hmo.rt x h1
    ·exact hmo.am hk
   ·exact hmo.rt x hx
 ·rw [if_neg hq] at h;exact absurd h hq
def evR(day:Int):List Ev→Nat→Ps→List Int→Nat×Ps×List Int×Int
 | [],i,p,R=>(i,p,R,0)
 |e::M,i,p,R=>if e.day=day then(if(applyR p R e).2.2=0 then evR day M (i+1) (applyR p R e).1 (applyR p R e).2.1 else(i,p,R,(applyR p R e).2.2)) else(i,p,R,0)
end Go.Proofs.YthcmpcekmkioaaaGreat
namespace Go.Proofs.YthcmpcekmkioaaaGreat
open Go.RowKit
def evS(B:Nat)(vl:Value)(i:Int)(day:Int)(W:World):Prop:=W.cell? ⟨B,7,none⟩=some vl∧W.cell? ⟨B,8,none⟩=some (.int .i64 i)∧W.cell? ⟨B,9,none⟩=some (.int .i64 day)
def evS2(B:Nat)(vl:Value)(i:Int)(day:Int)(g o:Nat)(d:Int)(W:World):Prop:=W.cell? ⟨B,7,none⟩=some vl∧W.cell? ⟨B,8,none⟩=some (.int .i64 i)∧W.cell? ⟨B,9,none⟩=some (.int .i64 day)∧W.cell? ⟨g,o,none⟩=some (.int .i64 d)
def evS3(B:Nat)(vl vb vr:Value)(i cr du:Int)(g o:Nat)(ki da tr am re:Int)(W:World):Prop:=W.cell? ⟨B,7,none⟩=some vl∧W.cell? ⟨B,8,none⟩=some (.int .i64 i)∧W.cell? ⟨B,10,none⟩=some vb∧W.cell? ⟨B,11,none⟩=some (.int .i64 cr)∧W.cell? ⟨B,12,none⟩=some (.int .i64 du)∧W.cell? ⟨B,13,none⟩=some vr∧
 W.cell? ⟨g,o,none⟩=some (.int .i64 ki)∧W.cell? ⟨g,o+1,none⟩=some (.int .i64 da)∧W.cell? ⟨g,o+2,none⟩=some (.int .i64 tr)∧W.cell? ⟨g,o+3,none⟩=some (.int .i64 am)∧W.cell? ⟨g,o+4,none⟩=some (.int .i64 re)
theorem evS3.keep{B:Nat}{vl vb vr:Value}{i cr du:Int}{g o:Nat}{ki da tr am re:Int}{W W':World}(h:evS3 B vl vb vr i cr du g o ki da tr am re W)(hk:Keeps (fun _=>False) W W'):evS3 B vl vb vr i cr du g o ki da tr am re W':=by
 obtain⟨h1,h2,h3,h4,h5,h6,h7,h8,h9,h10,h11⟩:=h
 have k:∀{p:Addr} {u:Value},W.cell? p=some u→W'.cell? p=some u:=fun hc=>(hk.cell (cell_lt hc) (by simp)).trans hc
 exact⟨k h1,k h2,k h3,k h4,k h5,k h6,k h7,k h8,k h9,k h10,k h11⟩
def evSt(s:St)(z:Nat×Ps×List Int×Int):St:={ s with i:=z.1,p:=z.2.1,R:=z.2.2.1 }
set_option maxRecDepth 100000
set_option maxHeartbeats 6400000
theorem runEvents_nil{w0:World}{X:Fx}{B:Nat}{t:Tm}{n:Nat}{vt:Value}{L:List Ev}{f1 f2:Value}{s:St}{vl vb vr:Value}{g0 g1:Nat}{S0 S1:List SI}{vo:Value}{P:List SV}{W:World}(h:RunV w0 X B t n vt L .nilFunc f1 f2 s vl vb vr g0 g1 S0 S1 vo P W)(hn:n≤1000)
  (hl:L.length≤1000000) (hi:s.i≤L.length) (Z:Nat×Ps×List Int×Int) (hZ:evR s.day (L.drop s.i) s.i s.p s.R=Z):
  Calls Tryz.prog 66 #[(.pointer (some ⟨B,0,none⟩))] W fun e W'=>e= .returned (.int .i64 Z.2.2.2)∧∃vb' vr',RunV w0 X B t n vt L .nilFunc f1 f2 (evSt s Z) vl vb' vr' g0 g1 S0 S1 vo P W':=by
 obtain⟨N,hN⟩:∃N,L.length=N:=⟨_,rfl⟩
 obtain⟨adl,cl,rfl⟩:∃a c,vl= .slice a N c:=by obtain⟨a,c,h,_⟩:=ownsRow_shape h.evs;rw [hN] at h;exact⟨a,c,h⟩
 rw [hN] at hl hi
 have hnil:∀w:World,(binOp .neq 70 .nilFunc .nilFunc).run Tryz.prog w= .ok (.bool false) w:=fun _=>by kernel_rfl
 obtain⟨H,HN,HZ,Hnil⟩:=hid4 h hN hZ hnil;clear hnil hZ hN h
 go_enter Tryz.func66,Tryz.ntmps66
 go_wp2
 go_loopw [2] (fun x wx=>∃(i:Nat) (p:Ps) (R:List Int) (vb vr:Value),x= .int .i64 0∧i≤N∧evR s.day (L.drop i) i p R=Z∧RunV w0 X B t n vt L .nilFunc f1 f2 { s with i:=i,p:=p,R:=R } (.slice adl N cl) vb vr g0 g1 S0 S1 vo P wx) (fun _ wx=>N-(cellInt wx B 8).toNat)
 case atStart=>exact⟨s.i,s.p,s.R,vb,vr,rfl,hi,HZ.out,H.out⟩
 case round=>
  obtain⟨i,p,R,vbi,vri,rfl,hin,hev,hrv⟩:=hrel
  obtain⟨wq,hwq⟩:∃x,x=wr:=⟨_,rfl⟩
  subst hwq
  have hci:cellInt wq B 8=(i:Int):=cellInt_of (cell_of_cells hrv.blk 8)
  have b7:=cell_of_cells hrv.blk 7
  have b8:=cell_of_cells hrv.blk 8
  have b9:=cell_of_cells hrv.blk 9
  by_cases hlt:i<N
  ·have hltI:decide ((i:Int)<(N:Int))=true:=by rw [decide_eq_true_iff];omega
   have hltJ:(i:Int)<(N:Int):=by omega
   obtain⟨⟨ki,da,tr,am,re⟩,hx⟩:=get_some (L:=L) (k:=i) (by rw [HN.out];exact hlt)
   obtain⟨g,o,c,he,hc⟩:=(Reads.of_owns hrv.evs).elem Ev.cells_length hx (by decide)
   rw [HN.out] at he
   simp only [Value.slice.injEq,true_and] at he
   obtain⟨rfl,rfl⟩:=he
   have x0:wq.cell? ⟨g,o+i*5,none⟩=some (.int .i64 ki):=hc 0 (by decide)
   have x1:wq.cell? ⟨g,o+i*5+1,none⟩=some (.int .i64 da):=hc 1 (by decide)
   have x2:wq.cell? ⟨g,o+i*5+2,none⟩=some (.int .i64 tr):=hc 2 (by decide)
   have x3:wq.cell? ⟨g,o+i*5+3,none⟩=some (.int .i64 am):=hc 3 (by decide)
   have x4:wq.cell? ⟨g,o+i*5+4,none⟩=some (.int .i64 re):=hc 4 (by decide)
   clear hc
   have hdr:evR s.day (L.drop i) i p R=if da=s.day then(if(applyR p R ⟨ki,da,tr,am,re⟩).2.2=0 then evR s.day (L.drop (i+1)) (i+1) (applyR p R ⟨ki,da,tr,am,re⟩).1 (applyR p R ⟨ki,da,tr,am,re⟩).2.1 else(i,p,R,(applyR p R ⟨ki,da,tr,am,re⟩).2.2)) else(i,p,R,0):=by
    rw [drop_cons' hx];rfl
   rw [hdr] at hev
   have hS:evS2 B (.slice (some ⟨g,o,none⟩) N cl) i s.day g (o+i*5+1) da wq:=⟨b7,b8,b9,x1⟩
   have hS':evS2 B (.slice (some ⟨g,o,none⟩) N cl) i s.day g (o+i*5+1) da wq.drew:=hS
   clear b7 b8 b9
   by_cases hd:da=s.day
   ·have hdI:(da==s.day)=true:=by simp [hd]
    rw [if_pos hd] at hev
    obtain⟨ab,cb,rfl⟩:∃a c,vbi= .slice a n c:=by obtain⟨a,c,h,_⟩:=ownsRow_shape hrv.bal;exact⟨a,c,h⟩
    obtain⟨ar,cr2,rfl⟩:∃a c,vri= .slice a n c:=by obtain⟨a,c,h,_⟩:=ownsRow_shape hrv.rts;exact⟨a,c,h⟩
    obtain⟨A,hA⟩:∃A,applyR p R ⟨ki,da,tr,am,re⟩=A:=⟨_,rfl⟩
    have hok:=applyR_ok (p:=p) (R:=R) (e:=⟨ki,da,tr,am,re⟩)
    rw [hA] at hev hok
    obtain⟨bal,pc,pd⟩:=p
    have hcall:=fun W (hW:Keeps (fun _=>False) wq W)=>repApply_any bal R pc pd ki da tr am re ab ar cb cr2 n n W ((Reads.of_owns hrv.bal).keeps hW (by simp)) hrv.nb hn ((Reads.of_owns hrv.rts).keeps hW (by simp)) hrv.nr hn
    rw [hA] at hcall
    obtain⟨Hrv,Hev,Hx,Hdr,HS,HS',Hd,Hci,HA⟩:=hid9 hrv hev hx hdr hS hS' hd hci hA;clear hA hci hd hS' hS hdr hx hev hrv;obtain⟨Hok,Hcall,X0,X1,X2,X3,X4⟩:=hid7 hok hcall x0 x1 x2 x3 x4;clear x4 x3 x2 x1 x0 hcall hok
    go_wp2_with fail
    refine wp_region_mixw (evS2 B (.slice (some ⟨g,o,none⟩) N cl) i s.day g (o+i*5+1) da) (.take 0 (.take 1 (.take 2 (.take 3 (.take 4 (.take 5 (.take 6 (.take 7 (.take 8 (.take 9 (.take 10 (.take 11 (.take 12 (.take 13 (.take 14 (.take 15 (.take 16 (.take 17 (.take 18 (.take 19 (.take 20 (.take 21 (.take 22 (.take 23 (.take 24 (.take 25 (.take 26 (.take 27 .done)))))))))))))))))))))))))))) (by kernel_rfl) (by kernel_rfl) ?_ ?_
    ·exact HS'.out
    intro w1 hs1 hk1
    repeat (first
     |(refine mix_skip rfl (by rfl) ?_;try simp only [Act.put,List.setIfInBounds_toArray,List.set_cons_zero,List.set_cons_succ])
     |(refine mix_skipm rfl (by rfl) ?_;try simp only [Act.put,List.setIfInBounds_toArray,List.set_cons_zero,List.set_cons_succ])
     |(refine mix_take (v:= ?_) rfl (by rfl) ?_ ?_;rotate_left;(· intro w' hSw;unfold evS2 at hSw;go_simp;(try with_reducible rfl));rotate_right;try simp only [Act.put,List.setIfInBounds_toArray,List.set_cons_zero,List.set_cons_succ]))
    refine mix_done ?_
    have hrv1:=Hrv.out.keep0 hk1
    have b10:=cell_of_cells hrv1.blk 10
    have b11:=cell_of_cells hrv1.blk 11
    have b12:=cell_of_cells hrv1.blk 12
    have bl:=lt_of_block hrv1.blk
    have hk1x:=hk1.trans_alloc (o:= .cells #[.slice ab n cb, .int .i64 pc, .int .i64 pd] 24)
    have hrv1x:=Hrv.out.keep0 hk1x
    have hkk:∀{p:Addr} {u:Value},wq.cell? p=some u→(w1.alloc (.cells #[.slice ab n cb, .int .i64 pc, .int .i64 pd] 24)).cell? p=some u:=fun hc=>(hk1x.cell (cell_lt hc) (by simp)).trans hc
    have hS3:evS3 B (.slice (some ⟨g,o,none⟩) N cl) (.slice ab n cb) (.slice ar n cr2) i pc pd g (o+i*5) ki da tr am re (w1.alloc (.cells #[.slice ab n cb, .int .i64 pc, .int .i64 pd] 24)).drew:=
     (show evS3 B (.slice (some ⟨g,o,none⟩) N cl) (.slice ab n cb) (.slice ar n cr2) i pc pd g (o+i*5) ki da tr am re (w1.alloc (.cells #[.slice ab n cb, .int .i64 pc, .int .i64 pd] 24)) from⟨cell_of_cells hrv1x.blk 7,cell_of_cells hrv1x.blk 8,cell_of_cells hrv1x.blk 10,cell_of_cells hrv1x.blk 11,cell_of_cells hrv1x.blk 12,cell_of_cells hrv1x.blk 13,hkk X0.out,hkk X1.out,hkk X2.out,hkk X3.out,hkk X4.out⟩).keep (Keeps.drew _)
    clear hs1 hkk
    obtain⟨Hk1,Hrv1,Hk1x,Hrv1x,HS3⟩:=hid5 hk1 hrv1 hk1x hrv1x hS3;clear hS3 hrv1x hk1x hrv1 hk1
    go_wp2_with fail
    refine wp_region_mixw (evS3 B (.slice (some ⟨g,o,none⟩) N cl) (.slice ab n cb) (.slice ar n cr2) i pc pd g (o+i*5) ki da tr am re) (.take 0 (.take 1 (.take 2 (.take 3 (.take 4 (.take 5 (.take 6 (.take 7 (.take 8 (.take 9 (.take 10 (.take 11 (.take 12 (.take 13 (.take 14 (.take 15 (.take 16 (.take 17 (.fork 18 (.take 19 (.take 20 (.take 21 (.take 22 (.move 23 (.move 24 (.take 25 (.take 26 .done)))))))) 23 (.move 18 (.take 19 (.take 20 (.take 21 (.take 22 (.move 24 (.take 25 (.take 26 .done))))))))))))))))))))))))))) (by kernel_rfl) (by kernel_rfl) ?_ ?_
    ·exact HS3.out
    intro w2 hs2 hk2
    repeat (first
     |(refine mix_skip rfl (by rfl) ?_;try simp only [Act.put,List.setIfInBounds_toArray,List.set_cons_zero,List.set_cons_succ])
     |(refine mix_skipm rfl (by rfl) ?_;try simp only [Act.put,List.setIfInBounds_toArray,List.set_cons_zero,List.set_cons_succ])
     |(refine mix_take (v:= ?_) rfl (by rfl) ?_ ?_;rotate_left;(· intro w' hSw;unfold evS3 at hSw;go_simp;(try with_reducible rfl));rotate_right;try simp only [Act.put,List.setIfInBounds_toArray,List.set_cons_zero,List.set_cons_succ]))
    obtain⟨q,R',z⟩:=A
    refine mix_fork ?_ ?_ hs2
    ·skip
     refine mix_move rfl (fun K hK=> ?_)
     go_simp
     go_at_call 8
     ((with_reducible refine(Hcall.out _ (Hk1x.out.nt hk2)).mono ?_);rintro e w5 ⟨vb',vr',rfl,hrb,hrr,hk5,hgb,hgr⟩;dsimp only)
     obtain⟨a5,c5,rfl⟩:∃a c,vb'= .slice a q.bal.length c:=by obtain⟨a,c,h,_⟩:=ownsRow_shape hrb;exact⟨a,c,h⟩
     obtain⟨a6,c6,rfl⟩:∃a c,vr'= .slice a R'.length c:=by obtain⟨a,c,h,_⟩:=ownsRow_shape hrr;exact⟨a,c,h⟩
     refine hK.out _ _ (by exact hs2.keep hk5) ?_
     clear hK K
     try simp only [Act.put,List.setIfInBounds_toArray,List.set_cons_zero,List.set_cons_succ]
     repeat (first
      |(refine mix_skip rfl (by rfl) ?_;try simp only [Act.put,List.setIfInBounds_toArray,List.set_cons_zero,List.set_cons_succ])
      |(refine mix_skipm rfl (by rfl) ?_;try simp only [Act.put,List.setIfInBounds_toArray,List.set_cons_zero,List.set_cons_succ])
      |(refine mix_take (v:= ?_) rfl (by rfl) ?_ ?_;rotate_left;(· intro w' hSw;unfold evS3 at hSw;go_simp;(try with_reducible rfl));rotate_right;try simp only [Act.put,List.setIfInBounds_toArray,List.set_cons_zero,List.set_cons_succ]))
     refine mix_move rfl (fun K hK=> ?_)
     go_simp
     refine hK.out _ _ (by exact hs2.keep (hk5.trans_alloc)) ?_
     clear hK K
     try simp only [Act.put,List.setIfInBounds_toArray,List.set_cons_zero,List.set_cons_succ]
     obtain⟨w6,hw6⟩:∃x,x=w5.alloc (.cells #[.slice none 0 0, .int .i64 0, .int .i64 0] 24):=⟨_,rfl⟩
     have hbx5:w6.heap[w5.heap.size]?=some (.cells #[.slice none 0 0, .int .i64 0, .int .i64 0] 24 (0,0)):=by rw [hw6];exact heap_alloc_new w5 _
     have k56:Keeps (fun _=>False) w5 w6:=by rw [hw6];exact Keeps.alloc _ _
     rw [←hw6]
     clear hw6
     have k26:=hk5.nt k56
     have hb4n:w2.heap.size≤w5.heap.size:=hk5.size
     have hqs:wq.heap.size≤w2.heap.size:=(Hk1x.out.nt hk2).size
     have hneb:∀b,(Value.slice a5 q.bal.length c5).ownBlock=some b→¬b=w5.heap.size:=fun b hb e=>by have:=own_lt hrb hb;omega
     have hner:∀b,(Value.slice a6 R'.length c6).ownBlock=some b→¬b=w5.heap.size:=fun b hb e=>by have:=own_lt hrr hb;omega
     have hrb5:=hrb.of_keeps k56
     have hrr5:=hrr.of_keeps k56
     have hgb6:∀b,(Value.slice a5 q.bal.length c5).ownBlock=some b→wq.heap.size≤b:=fun b hb=>by have:=hgb b hb;omega
     have hgr6:∀b,(Value.slice a6 R'.length c6).ownBlock=some b→wq.heap.size≤b:=fun b hb=>by have:=hgr b hb;omega
     obtain⟨b4,hb4⟩:∃x,x=w5.heap.size:=⟨_,rfl⟩
     rw [←hb4] at hbx5 hb4n hneb hner⊢
     clear hb4 hrb hrr hgb hgr k56 hk5
     have r0:=cell_of_cells hbx5 0
     have r1:=cell_of_cells hbx5 1
     have r2:=cell_of_cells hbx5 2
     have rf0:=free_of_cells hbx5 0
     have rf1:=free_of_cells hbx5 1
     have rf2:=free_of_cells hbx5 2
     have rl:=lt_of_block hbx5
     obtain⟨hbx6,k6⟩:=store3 hbx5 (.slice a5 q.bal.length c5) (.int .i64 q.cr) (.int .i64 q.du)
     have k2W:Keeps (fun _=>False) w2 (((w6.setCell ⟨b4,0,none⟩ (.slice a5 q.bal.length c5)).setCell ⟨b4,1,none⟩ (.int .i64 q.cr)).setCell ⟨b4,2,none⟩ (.int .i64 q.du)):=k26.trans (k6.mono fun i _ e=> .inr (by have e':i=b4:=e;omega))
     have hrb6:=k6.row hrb5 (fun i hi e=>by have e':i=b4:=e;exact hneb i hi e')
     have hrr6:=k6.row hrr5 (fun i hi e=>by have e':i=b4:=e;exact hner i hi e')
     have hkA6:=hk2.nt k2W
     refine mix_move rfl (fun K hK=> ?_)
     go_simp
     refine hK.out _ _ (by exact hs2.keep k2W) ?_
     clear hK K
     try simp only [Act.put,List.setIfInBounds_toArray,List.set_cons_zero,List.set_cons_succ]
     repeat (first
      |(refine mix_skip rfl (by rfl) ?_;try simp only [Act.put,List.setIfInBounds_toArray,List.set_cons_zero,List.set_cons_succ])
      |(refine mix_skipm rfl (by rfl) ?_;try simp only [Act.put,List.setIfInBounds_toArray,List.set_cons_zero,List.set_cons_succ])
      |(refine mix_take (v:= ?_) rfl (by rfl) ?_ ?_;rotate_left;(· intro w' hSw;unfold evS3 at hSw;go_simp;(try with_reducible rfl));rotate_right;try simp only [Act.put,List.setIfInBounds_toArray,List.set_cons_zero,List.set_cons_succ]))
     refine mix_done ?_
     clear r0 r1 r2 rf0 rf1 rf2 rl
     obtain⟨W6,hW6⟩:∃x,x=(((w6.setCell ⟨b4,0,none⟩ (.slice a5 q.bal.length c5)).setCell ⟨b4,1,none⟩ (.int .i64 q.cr)).setCell ⟨b4,2,none⟩ (.int .i64 q.du)):=⟨_,rfl⟩
     rw [←hW6] at hkA6 hrb6 hrr6 hbx6⊢
     clear hW6 k6 k2W hneb hner hrb5 hrr5 hbx5 k26 hs2 hk2
     have hkq6:=Hk1x.out.nt hkA6
     have hrv6:=Hrv.out.keep0 hkq6
     by_cases hz0:z=0
     ·subst hz0
      obtain⟨ok1,ok2,_,_⟩:=Hok.out rfl
      simp only at ok1 ok2
      have hev2:=Hev.out
      rw [if_pos rfl] at hev2
      have hq1:q.bal.length=n:=by rw [ok1];exact Hrv.out.nb
      have hq2:R'.length=n:=by rw [ok2];exact Hrv.out.nr
      rw [hq1] at hrb6 hbx6 hgb6⊢
      rw [hq2] at hrr6 hgr6⊢
      have hset:=Hrv.out.setP hkq6 hrb6 hrr6 hq1 hq2 hgb6 hgr6
      have hset2:=hset.setI (i+1)
      have t0:=cell_of_cells hbx6 0
      have t1:=cell_of_cells hbx6 1
      have t2:=cell_of_cells hbx6 2
      have tl:=lt_of_block hbx6
      have b8:=cell_of_cells hrv6.blk 8
      have b10:=cell_of_cells hrv6.blk 10
      have b11:=cell_of_cells hrv6.blk 11
      have b12:=cell_of_cells hrv6.blk 12
      have b13:=cell_of_cells hrv6.blk 13
      have b17:=cell_of_cells hrv6.blk 17
      have q8:=free_of_cells hrv6.blk 8
      have q10:=free_of_cells hrv6.blk 10
      have q11:=free_of_cells hrv6.blk 11
      have q12:=free_of_cells hrv6.blk 12
      have q13:=free_of_cells hrv6.blk 13
      have bl:=lt_of_block hrv6.blk
      have hil:(i:Int)+1≤1000000:=by omega
      have hnil2:=Hnil.out
      obtain⟨W8,hW8⟩:∃x,x=(((((W6.setCell ⟨B,10,none⟩ (.slice a5 n c5)).setCell ⟨B,11,none⟩ (.int .i64 q.cr)).setCell ⟨B,12,none⟩ (.int .i64 q.du)).setCell ⟨B,13,none⟩ (.slice a6 n c6)).setCell ⟨B,8,none⟩ (.int .i64 ((i+1:Nat):Int))):=⟨_,rfl⟩
      rw [←hW8] at hset2
      rw [show((i+1:Nat):Int)=(i:Int)+1 by omega] at hW8
      have hci8:cellInt W8 B 8=((i+1:Nat):Int):=cellInt_of (cell_of_cells hset2.blk 8)
      obtain⟨HkA6,Hrb6,Hrr6,Hbx6,Hkq6,Hrv6,Hset,Hset2,Hev2⟩:=hid9 hkA6 hrb6 hrr6 hbx6 hkq6 hrv6 hset hset2 hev2;clear hev2 hset2 hset hrv6 hkq6 hbx6 hrr6 hrb6 hkA6;obtain⟨Hgb6,Hgr6,Hci8,Hnil2,Ok1,Ok2,Hq1,Hq2,Hb4n⟩:=hid9 hgb6 hgr6 hci8 hnil2 ok1 ok2 hq1 hq2 hb4n;clear hb4n hq2 hq1 ok2 ok1 hnil2 hci8 hgr6 hgb6
      have hnil2:=Hnil.out
      go_wp2
      rw [←hW8]
      clear hW8
      go_roundw
      case rel=>exact⟨i+1,q,R',_,_,rfl,by omega,Hev2.out,Hset2.out⟩
      case measure=>rw [Hci.out,Hci8.out];omega
     ·have hev2:=Hev.out
      rw [if_neg hz0] at hev2
      have hz1:(z !=0)=true:=by simp [hz0]
      subst hev2
      obtain⟨HkA6,Hrb6,Hrr6,Hbx6,Hkq6,Hrv6,Hgb6,Hgr6,Hz0⟩:=hid9 hkA6 hrb6 hrr6 hbx6 hkq6 hrv6 hgb6 hgr6 hz0;clear hz0 hgr6 hgb6 hrv6 hkq6 hbx6 hrr6 hrb6 hkA6;have Hb4n:=Lib.hid hb4n;clear hb4n
      go_wp2
      go_ret
      exact⟨rfl,_,_,Hrv6.out⟩
    ·skip
     refine mix_move rfl (fun K hK=> ?_)
     go_simp
     refine hK.out _ _ (by exact hs2.keep (Keeps.alloc _ _)) ?_
     clear hK K
     try simp only [Act.put,List.setIfInBounds_toArray,List.set_cons_zero,List.set_cons_succ]
     refine mix_move rfl (fun K hK=> ?_)
     go_simp
     go_at_call 8
     ((with_reducible refine(Hcall.out _ ((Hk1x.out.nt hk2).trans_alloc)).mono ?_);rintro e w5 ⟨vb',vr',rfl,hrb,hrr,hk5,hgb,hgr⟩;dsimp only)
     obtain⟨a5,c5,rfl⟩:∃a c,vb'= .slice a q.bal.length c:=by obtain⟨a,c,h,_⟩:=ownsRow_shape hrb;exact⟨a,c,h⟩
     obtain⟨a6,c6,rfl⟩:∃a c,vr'= .slice a R'.length c:=by obtain⟨a,c,h,_⟩:=ownsRow_shape hrr;exact⟨a,c,h⟩
     refine hK.out _ _ (by exact(hs2.keep (Keeps.alloc _ _)).keep hk5) ?_
     clear hK K
     try simp only [Act.put,List.setIfInBounds_toArray,List.set_cons_zero,List.set_cons_succ]
     repeat (first
      |(refine mix_skip rfl (by rfl) ?_;try simp only [Act.put,List.setIfInBounds_toArray,List.set_cons_zero,List.set_cons_succ])
      |(refine mix_skipm rfl (by rfl) ?_;try simp only [Act.put,List.setIfInBounds_toArray,List.set_cons_zero,List.set_cons_succ])
      |(refine mix_take (v:= ?_) rfl (by rfl) ?_ ?_;rotate_left;(· intro w' hSw;unfold evS3 at hSw;go_simp;(try with_reducible rfl));rotate_right;try simp only [Act.put,List.setIfInBounds_toArray,List.set_cons_zero,List.set_cons_succ]))
     have hbx5:=box_old (heap_alloc_new w2 (.cells #[.slice none 0 0, .int .i64 0, .int .i64 0] 24)) hk5 (by simp)
     have k26:=(Keeps.alloc (S:=fun _=>False) w2 (.cells #[.slice none 0 0, .int .i64 0, .int .i64 0] 24)).nt hk5
     have hb4n:w2.heap.size≤w2.heap.size:=Nat.le_refl _
     have hqs:wq.heap.size≤w2.heap.size:=(Hk1x.out.nt hk2).size
     have hneb:∀b,(Value.slice a5 q.bal.length c5).ownBlock=some b→¬b=w2.heap.size:=fun b hb e=>by have:=hgb b hb;simp at this;omega
     have hner:∀b,(Value.slice a6 R'.length c6).ownBlock=some b→¬b=w2.heap.size:=fun b hb e=>by have:=hgr b hb;simp at this;omega
     have hgb6:∀b,(Value.slice a5 q.bal.length c5).ownBlock=some b→wq.heap.size≤b:=fun b hb=>by have:=hgb b hb;simp at this;omega
     have hgr6:∀b,(Value.slice a6 R'.length c6).ownBlock=some b→wq.heap.size≤b:=fun b hb=>by have:=hgr b hb;simp at this;omega
     have hrb5:=hrb
     have hrr5:=hrr
     obtain⟨w6,hw6⟩:∃x,x=w5:=⟨_,rfl⟩
     obtain⟨b4,hb4⟩:∃x,x=w2.heap.size:=⟨_,rfl⟩
     rw [←hb4] at hbx5 hneb hner⊢
     rw [←hw6] at hbx5 k26 hrb5 hrr5⊢
     replace hb4n:w2.heap.size≤b4:=by rw [hb4];exact Nat.le_refl _
     clear hb4 hw6 hrb hrr hgb hgr hk5
     have r0:=cell_of_cells hbx5 0
     have r1:=cell_of_cells hbx5 1
     have r2:=cell_of_cells hbx5 2
     have rf0:=free_of_cells hbx5 0
     have rf1:=free_of_cells hbx5 1
     have rf2:=free_of_cells hbx5 2
     have rl:=lt_of_block hbx5
     obtain⟨hbx6,k6⟩:=store3 hbx5 (.slice a5 q.bal.length c5) (.int .i64 q.cr) (.int .i64 q.du)
     have k2W:Keeps (fun _=>False) w2 (((w6.setCell ⟨b4,0,none⟩ (.slice a5 q.bal.length c5)).setCell ⟨b4,1,none⟩ (.int .i64 q.cr)).setCell ⟨b4,2,none⟩ (.int .i64 q.du)):=k26.trans (k6.mono fun i _ e=> .inr (by have e':i=b4:=e;omega))
     have hrb6:=k6.row hrb5 (fun i hi e=>by have e':i=b4:=e;exact hneb i hi e')
     have hrr6:=k6.row hrr5 (fun i hi e=>by have e':i=b4:=e;exact hner i hi e')
     have hkA6:=hk2.nt k2W
     refine mix_move rfl (fun K hK=> ?_)
     go_simp
     refine hK.out _ _ (by exact hs2.keep k2W) ?_
     clear hK K
     try simp only [Act.put,List.setIfInBounds_toArray,List.set_cons_zero,List.set_cons_succ]
     repeat (first
      |(refine mix_skip rfl (by rfl) ?_;try simp only [Act.put,List.setIfInBounds_toArray,List.set_cons_zero,List.set_cons_succ])
      |(refine mix_skipm rfl (by rfl) ?_;try simp only [Act.put,List.setIfInBounds_toArray,List.set_cons_zero,List.set_cons_succ])
      |(refine mix_take (v:= ?_) rfl (by rfl) ?_ ?_;rotate_left;(· intro w' hSw;unfold evS3 at hSw;go_simp;(try with_reducible rfl));rotate_right;try simp only [Act.put,List.setIfInBounds_toArray,List.set_cons_zero,List.set_cons_succ]))
     refine mix_done ?_
     clear r0 r1 r2 rf0 rf1 rf2 rl
     obtain⟨W6,hW6⟩:∃x,x=(((w6.setCell ⟨b4,0,none⟩ (.slice a5 q.bal.length c5)).setCell ⟨b4,1,none⟩ (.int .i64 q.cr)).setCell ⟨b4,2,none⟩ (.int .i64 q.du)):=⟨_,rfl⟩
     rw [←hW6] at hkA6 hrb6 hrr6 hbx6⊢
     clear hW6 k6 k2W hneb hner hrb5 hrr5 hbx5 k26 hs2 hk2
     have hkq6:=Hk1x.out.nt hkA6
     have hrv6:=Hrv.out.keep0 hkq6
     by_cases hz0:z=0
     ·subst hz0
      obtain⟨ok1,ok2,_,_⟩:=Hok.out rfl
      simp only at ok1 ok2
      have hev2:=Hev.out
      rw [if_pos rfl] at hev2
      have hq1:q.bal.length=n:=by rw [ok1];exact Hrv.out.nb
      have hq2:R'.length=n:=by rw [ok2];exact Hrv.out.nr
      rw [hq1] at hrb6 hbx6 hgb6⊢
      rw [hq2] at hrr6 hgr6⊢
      have hset:=Hrv.out.setP hkq6 hrb6 hrr6 hq1 hq2 hgb6 hgr6
      have hset2:=hset.setI (i+1)
      have t0:=cell_of_cells hbx6 0
      have t1:=cell_of_cells hbx6 1
      have t2:=cell_of_cells hbx6 2
      have tl:=lt_of_block hbx6
      have b8:=cell_of_cells hrv6.blk 8
      have b10:=cell_of_cells hrv6.blk 10
      have b11:=cell_of_cells hrv6.blk 11
      have b12:=cell_of_cells hrv6.blk 12
      have b13:=cell_of_cells hrv6.blk 13
      have b17:=cell_of_cells hrv6.blk 17
      have q8:=free_of_cells hrv6.blk 8
      have q10:=free_of_cells hrv6.blk 10
      have q11:=free_of_cells hrv6.blk 11
      have q12:=free_of_cells hrv6.blk 12
      have q13:=free_of_cells hrv6.blk 13
      have bl:=lt_of_block hrv6.blk
      have hil:(i:Int)+1≤1000000:=by omega
      have hnil2:=Hnil.out
      obtain⟨W8,hW8⟩:∃x,x=(((((W6.setCell ⟨B,10,none⟩ (.slice a5 n c5)).setCell ⟨B,11,none⟩ (.int .i64 q.cr)).setCell ⟨B,12,none⟩ (.int .i64 q.du)).setCell ⟨B,13,none⟩ (.slice a6 n c6)).setCell ⟨B,8,none⟩ (.int .i64 ((i+1:Nat):Int))):=⟨_,rfl⟩
      rw [←hW8] at hset2
      rw [show((i+1:Nat):Int)=(i:Int)+1 by omega] at hW8
      have hci8:cellInt W8 B 8=((i+1:Nat):Int):=cellInt_of (cell_of_cells hset2.blk 8)
      obtain⟨HkA6,Hrb6,Hrr6,Hbx6,Hkq6,Hrv6,Hset,Hset2,Hev2⟩:=hid9 hkA6 hrb6 hrr6 hbx6 hkq6 hrv6 hset hset2 hev2;clear hev2 hset2 hset hrv6 hkq6 hbx6 hrr6 hrb6 hkA6;obtain⟨Hgb6,Hgr6,Hci8,Hnil2,Ok1,Ok2,Hq1,Hq2,Hb4n⟩:=hid9 hgb6 hgr6 hci8 hnil2 ok1 ok2 hq1 hq2 hb4n;clear hb4n hq2 hq1 ok2 ok1 hnil2 hci8 hgr6 hgb6
      have hnil2:=Hnil.out
      go_wp2
      rw [←hW8]
      clear hW8
      go_roundw
      case rel=>exact⟨i+1,q,R',_,_,rfl,by omega,Hev2.out,Hset2.out⟩
      case measure=>rw [Hci.out,Hci8.out];omega
     ·have hev2:=Hev.out
      rw [if_neg hz0] at hev2
      have hz1:(z !=0)=true:=by simp [hz0]
      subst hev2
      obtain⟨HkA6,Hrb6,Hrr6,Hbx6,Hkq6,Hrv6,Hgb6,Hgr6,Hz0⟩:=hid9 hkA6 hrb6 hrr6 hbx6 hkq6 hrv6 hgb6 hgr6 hz0;clear hz0 hgr6 hgb6 hrv6 hkq6 hbx6 hrr6 hrb6 hkA6;have Hb4n:=Lib.hid hb4n;clear hb4n
      go_wp2
      go_ret
      exact⟨rfl,_,_,Hrv6.out⟩
   ·have hdI:(da==s.day)=false:=beq_eq_false_iff_ne.2 hd
    rw [if_neg hd] at hev
    subst hev
    obtain⟨Hrv,Hx,Hdr,HS,HS',Hd,Hci,X0,X1⟩:=hid9 hrv hx hdr hS hS' hd hci x0 x1;clear x1 x0 hci hd hS' hS hdr hx hrv;obtain⟨X2,X3,X4⟩:=hid3 x2 x3 x4;clear x4 x3 x2
    go_wp2_with fail
    refine wp_region_mixw (evS2 B (.slice (some ⟨g,o,none⟩) N cl) i s.day g (o+i*5+1) da) (.take 0 (.take 1 (.take 2 (.take 3 (.take 4 (.take 5 (.take 6 (.take 7 (.take 8 (.take 9 (.take 10 (.take 11 (.take 12 (.take 13 (.take 14 (.take 15 (.take 16 (.take 17 (.take 18 (.take 19 (.take 20 (.take 21 (.take 22 (.take 23 (.take 24 (.take 25 (.take 26 (.take 27 .done)))))))))))))))))))))))))))) (by kernel_rfl) (by kernel_rfl) ?_ ?_
    ·exact HS'.out
    intro w1 hs1 hk1
    repeat (first
     |(refine mix_skip rfl (by rfl) ?_;try simp only [Act.put,List.setIfInBounds_toArray,List.set_cons_zero,List.set_cons_succ])
     |(refine mix_skipm rfl (by rfl) ?_;try simp only [Act.put,List.setIfInBounds_toArray,List.set_cons_zero,List.set_cons_succ])
     |(refine mix_take (v:= ?_) rfl (by rfl) ?_ ?_;rotate_left;(· intro w' hSw;unfold evS2 at hSw;go_simp;(try with_reducible rfl));rotate_right;try simp only [Act.put,List.setIfInBounds_toArray,List.set_cons_zero,List.set_cons_succ]))
    refine mix_done ?_
    have hrv1:=Hrv.out.keep0 hk1
    clear hs1
    obtain⟨Hk1,Hrv1⟩:=hid2 hk1 hrv1;clear hrv1 hk1
    go_wp2
    go_ret
    exact⟨rfl,_,_,Hrv1.out⟩
  ·obtain rfl:N=i:=by omega
   have hltI:decide ((N:Int)<(N:Int))=false:=by simp
   rw [List.drop_eq_nil_of_le (by rw [HN.out];exact Nat.le_refl _)] at hev
   simp only [evR] at hev
   subst hev
   have hS':evS B (.slice adl N cl) N s.day wq.drew:=(show evS B (.slice adl N cl) N s.day wq from⟨b7,b8,b9⟩)
   clear b7 b8 b9
   obtain⟨Hrv,HS',Hci⟩:=hid3 hrv hS' hci;clear hci hS' hrv
   go_wp2_with fail
   refine wp_region_mixw (evS B (.slice adl N cl) N s.day) (.take 0 (.take 1 (.take 2 (.take 3 (.take 4 (.take 5 (.take 6 (.take 7 (.take 8 (.take 9 (.take 10 (.take 11 (.take 12 (.take 13 (.take 14 (.take 15 (.take 16 (.take 17 (.take 18 (.take 19 (.take 20 (.take 21 (.take 22 (.take 23 (.take 24 (.take 25 (.take 26 (.take 27 .done)))))))))))))))))))))))))))) (by kernel_rfl) (by kernel_rfl) ?_ ?_
   ·exact HS'.out
   intro w1 hs1 hk1
   repeat (first
    |(refine mix_skip rfl (by rfl) ?_;try simp only [Act.put,List.setIfInBounds_toArray,List.set_cons_zero,List.set_cons_succ])
    |(refine mix_skipm rfl (by rfl) ?_;try simp only [Act.put,List.setIfInBounds_toArray,List.set_cons_zero,List.set_cons_succ])
    |(refine mix_take (v:= ?_) rfl (by rfl) ?_ ?_;rotate_left;(· intro w' hSw;unfold evS at hSw;go_simp;(try with_reducible rfl));rotate_right;try simp only [Act.put,List.setIfInBounds_toArray,List.set_cons_zero,List.set_cons_succ]))
   refine mix_done ?_
   have hrv1:=Hrv.out.keep0 hk1
   clear hs1
   obtain⟨Hk1,Hrv1⟩:=hid2 hk1 hrv1;clear hrv1 hk1
   go_wp2
   go_ret
   exact⟨rfl,_,_,Hrv1.out⟩
def freeB(out:List Stm)(fr:Int)(L:List Ev):Bool:=match out.getLast? with
 |none=>true
 |some x=>hasB x.total fr x.due L
def frS1(B:Nat)(vo:Value)(g o:Nat)(cy fr te du:Int)(vl:Value)(tt cr mi:Int)(gr:Bool)(W:World):Prop:=W.cell? ⟨B,16,none⟩=some vo∧W.cell? ⟨g,o,none⟩=some (.int .i64 cy)∧W.cell? ⟨g,o+1,none⟩=some (.int .i64 fr)∧W.cell? ⟨g,o+2,none⟩=some (.int .i64 te)∧W.cell? ⟨g,o+3,none⟩=some (.int .i64 du)∧W.cell? ⟨g,o+4,none⟩=some vl∧W.cell? ⟨g,o+5,none⟩=some (.int .i64 tt)∧W.cell? ⟨g,o+6,none⟩=some (.int .i64 cr)∧W.cell? ⟨g,o+7,none⟩=some (.int .i64 mi)∧W.cell? ⟨g,o+8,none⟩=some (.bool gr)
theorem frS1.keep{B:Nat}{vo:Value}{g o:Nat}{cy fr te du:Int}{vl:Value}{tt cr mi:Int}{gr:Bool}{W W':World}(h:frS1 B vo g o cy fr te du vl tt cr mi gr W)(hk:Keeps (fun _=>False) W W'):frS1 B vo g o cy fr te du vl tt cr mi gr W':=by
 obtain⟨h1,h2,h3,h4,h5,h6,h7,h8,h9,h10⟩:=h
 have k:∀{p:Addr} {u:Value},W.cell? p=some u→W'.cell? p=some u:=fun hc=>(hk.cell (cell_lt hc) (by simp)).trans hc
 exact⟨k h1,k h2,k h3,k h4,k h5,k h6,k h7,k h8,k h9,k h10⟩
def frS2(B b3 b6:Nat)(vl:Value)(tt fr du:Int)(W:World):Prop:=W.cell? ⟨B,7,none⟩=some vl∧W.cell? ⟨b3,0,none⟩=some (.int .i64 fr)∧W.cell? ⟨b6,5,none⟩=some (.int .i64 tt)∧W.cell? ⟨b6,3,none⟩=some (.int .i64 du)
theorem frS2.keep{B b3 b6:Nat}{vl:Value}{tt fr du:Int}{W W':World}(h:frS2 B b3 b6 vl tt fr du W)(hk:Keeps (fun _=>False) W W'):frS2 B b3 b6 vl tt fr du W':=by
 obtain⟨h1,h2,h3,h4⟩:=h
 have k:∀{p:Addr} {u:Value},W.cell? p=some u→W'.cell? p=some u:=fun hc=>(hk.cell (cell_lt hc) (by simp)).trans hc
 exact⟨k h1,k h2,k h3,k h4⟩
set_option maxHeartbeats 3200000
theorem runFree_any{w0:World}{X:Fx}{B:Nat}{t:Tm}{n:Nat}{vt:Value}{L:List Ev}{f0 f1 f2:Value}{s:St}{vl vb vr:Value}{g0 g1:Nat}{S0 S1:List SI}{vo:Value}{P:List SV}{W:World}(h:RunV w0 X B t n vt L f0 f1 f2 s vl vb vr g0 g1 S0 S1 vo P W)
  (hl:L.length≤1000000) (hm:s.out.length≤1000) (hok:∀x∈L,x.kind=2→0≤x.amount∧x.amount≤1000000000000000) (fr te:Int):
  Calls Tryz.prog 101 #[(.pointer (some ⟨B,0,none⟩)), .agg #[.int .i64 fr, .int .i64 te]] W fun e W'=>e= .returned (.tuple #[.bool (freeB s.out fr L), .int .i64 0])∧Keeps (fun _=>False) W W':=by
 obtain⟨N,hN⟩:∃N,L.length=N:=⟨_,rfl⟩
 obtain⟨adl,cl,rfl⟩:∃a c,vl= .slice a N c:=by obtain⟨a,c,h,_⟩:=ownsRow_shape h.evs;rw [hN] at h;exact⟨a,c,h⟩
 obtain⟨m,hmm⟩:∃m,P.length=m:=⟨_,rfl⟩
 obtain⟨av,cv,rfl⟩:∃a c,vo= .slice a m c:=by obtain⟨a,c,h,_⟩:=ownsRow_shape h.out;rw [hmm] at h;exact⟨a,c,h⟩
 have hpo:s.out.length=m:=by rw [←h.lp,List.length_map];exact hmm
 have b16:=cell_of_cells h.blk 16
 have bl:=lt_of_block h.blk
 rw [hN] at hl
 rw [hpo] at hm
 by_cases h0:m=0
 ·subst h0
  have hf:freeB s.out fr L=true:=by
   have:s.out= []:=List.length_eq_zero_iff.1 hpo
   rw [this];rfl
  rw [hf]
  have h00:(((0:Nat):Int)==0)=true:=rfl
  obtain⟨H,HN,Hmm,Hpo,Hok,Hf⟩:=hid6 h hN hmm hpo hok hf;clear hf hok hpo hmm hN h
  go_enter Tryz.func101,Tryz.ntmps101
  go_wp2
  exact bodyPost_ret (v:= .tuple #[.bool true, .int .i64 0]) (by simp [results,Tryz.results101,go_sem]) rfl ⟨rfl,Keeps.alloc _ _⟩
 ·have h0I:((m:Int)==0)=false:=beq_eq_false_iff_ne.2 (by omega)
  obtain⟨k,hk⟩:∃k,m=k+1:=⟨m-1,by omega⟩
  obtain⟨x,hx⟩:=get_some (L:=P) (k:=k) (by omega)
  obtain⟨g,o,c,he,hc⟩:=(Reads.of_owns h.out).elem SV.cells_length hx (by decide)
  rw [hmm] at he
  simp only [Value.slice.injEq,true_and] at he
  obtain⟨rfl,rfl⟩:=he
  obtain⟨⟨cy,xf,xt,xd,tt,xc,xm,xg,ln⟩,ax,cx⟩:=x
  have x0:W.cell? ⟨g,o+k*9,none⟩=some (.int .i64 cy):=hc 0 (by decide)
  have x1:W.cell? ⟨g,o+k*9+1,none⟩=some (.int .i64 xf):=hc 1 (by decide)
  have x2:W.cell? ⟨g,o+k*9+2,none⟩=some (.int .i64 xt):=hc 2 (by decide)
  have x3:W.cell? ⟨g,o+k*9+3,none⟩=some (.int .i64 xd):=hc 3 (by decide)
  have x4:W.cell? ⟨g,o+k*9+4,none⟩=some (.slice ax ln.length cx):=hc 4 (by decide)
  have x5:W.cell? ⟨g,o+k*9+5,none⟩=some (.int .i64 tt):=hc 5 (by decide)
  have x6:W.cell? ⟨g,o+k*9+6,none⟩=some (.int .i64 xc):=hc 6 (by decide)
  have x7:W.cell? ⟨g,o+k*9+7,none⟩=some (.int .i64 xm):=hc 7 (by decide)
  have x8:W.cell? ⟨g,o+k*9+8,none⟩=some (.bool xg):=hc 8 (by decide)
  clear hc
  have hgl:s.out.getLast?=some ⟨cy,xf,xt,xd,tt,xc,xm,xg,ln⟩:=by
   rw [List.getLast?_eq_getElem?,hpo,hk,←h.lp,List.getElem?_map,show k+1-1=k from rfl,hx];rfl
  have hf:freeB s.out fr L=hasB tt fr xd L:=by unfold freeB;rw [hgl]
  rw [hf]
  have hgr:=fun W' (hW:Keeps (fun _=>False) W W')=>graceHas_any tt fr xd L adl cl N W' ((Reads.of_owns h.evs).keeps hW (by simp)|>fun r=>by rw [hN] at r;exact r) hN hl hok
  obtain⟨z,hz⟩:∃z,hasB tt fr xd L=z:=⟨_,rfl⟩
  rw [hz] at hgr⊢
  have hm1:IntKind.i64.wrap ((k:Nat):Int)=(k:Int):=IntWalk.i64_in _ ⟨by omega,by omega⟩
  have hkI:(k:Int)<(m:Int):=by omega
  have hm2:(m:Int)-1=k:=by omega
  have ka:Keeps (fun _=>False) W (W.alloc (.cells #[.int .i64 fr, .int .i64 te] 77)):=Keeps.alloc _ _
  have hrA:=h.keep0 ka
  have hS1:frS1 B (.slice (some ⟨g,o,none⟩) m cv) g (o+k*9) cy xf xt xd (.slice ax ln.length cx) tt xc xm xg (W.alloc (.cells #[.int .i64 fr, .int .i64 te] 77)).drew:=
   (show frS1 B (.slice (some ⟨g,o,none⟩) m cv) g (o+k*9) cy xf xt xd (.slice ax ln.length cx) tt xc xm xg W from⟨b16,x0,x1,x2,x3,x4,x5,x6,x7,x8⟩).keep (ka.trans_drew)
  clear x0 x1 x2 x3 x4 x5 x6 x7 x8
  obtain⟨q,hq⟩:∃q,ln.length=q:=⟨_,rfl⟩
  rw [hq] at hS1
  obtain⟨H,HN,Hmm,Hpo,Hok,Hf,Hx,Hgl,Hgr⟩:=hid9 h hN hmm hpo hok hf hx hgl hgr;clear hgr hgl hx hf hok hpo hmm hN h;obtain⟨Hz,Ka,HrA,HS1,Hk,Hq⟩:=hid6 hz ka hrA hS1 hk hq;clear hq hk hS1 hrA ka hz
  go_enter Tryz.func101,Tryz.ntmps101
  go_wp2_with fail
  refine wp_region_mixw (frS1 B (.slice (some ⟨g,o,none⟩) m cv) g (o+k*9) cy xf xt xd (.slice ax q cx) tt xc xm xg) (.take 0 (.take 1 (.take 2 (.take 3 (.take 4 (.take 5 (.take 6 (.take 7 (.take 8 (.take 9 (.take 10 (.take 11 (.move 12 (.move 13 .done)))))))))))))) (by kernel_rfl) (by kernel_rfl) ?_ ?_
  ·exact HS1.out
  intro w1 hs1 hk1
  repeat (first
   |(refine mix_skip rfl (by rfl) ?_;try simp only [Act.put,List.setIfInBounds_toArray,List.set_cons_zero,List.set_cons_succ])
   |(refine mix_skipm rfl (by rfl) ?_;try simp only [Act.put,List.setIfInBounds_toArray,List.set_cons_zero,List.set_cons_succ])
   |(refine mix_take (v:= ?_) rfl (by rfl) ?_ ?_;rotate_left;(· intro w' hSw;unfold frS1 at hSw;go_simp;(try with_reducible rfl));rotate_right;try simp only [Act.put,List.setIfInBounds_toArray,List.set_cons_zero,List.set_cons_succ]))
  refine mix_move rfl (fun K hK=> ?_)
  go_simp
  refine hK.out _ _ (by exact hs1.keep (Keeps.alloc _ _)) ?_
  clear hK K
  try simp only [Act.put,List.setIfInBounds_toArray,List.set_cons_zero,List.set_cons_succ]
  have r6:=heap_alloc_new w1 (.cells #[.int .i64 0, .int .i64 0, .int .i64 0, .int .i64 0, .slice none 0 0, .int .i64 0, .int .i64 0, .int .i64 0, .bool false] 80)
  have z0:=cell_of_cells r6 0
  have z1:=cell_of_cells r6 1
  have z2:=cell_of_cells r6 2
  have z3:=cell_of_cells r6 3
  have z4:=cell_of_cells r6 4
  have z5:=cell_of_cells r6 5
  have z6:=cell_of_cells r6 6
  have z7:=cell_of_cells r6 7
  have z8:=cell_of_cells r6 8
  have y0:=free_of_cells r6 0
  have y1:=free_of_cells r6 1
  have y2:=free_of_cells r6 2
  have y3:=free_of_cells r6 3
  have y4:=free_of_cells r6 4
  have y5:=free_of_cells r6 5
  have y6:=free_of_cells r6 6
  have y7:=free_of_cells r6 7
  have y8:=free_of_cells r6 8
  have h9:=heap_alloc_new w1 (.cells #[.int .i64 cy, .int .i64 xf, .int .i64 xt, .int .i64 xd, .slice ax q cx, .int .i64 tt, .int .i64 xc, .int .i64 xm, .bool xg] 80)
  have k19:=Keeps.alloc (S:=fun _=>False) w1 (.cells #[.int .i64 cy, .int .i64 xf, .int .i64 xt, .int .i64 xd, .slice ax q cx, .int .i64 tt, .int .i64 xc, .int .i64 xm, .bool xg] 80)
  have kA:=Ka.out.nt hk1
  have kW:=kA.nt k19
  have hrW:=HrA.out.keep0 (hk1.nt k19)
  have hb3:=box_old (heap_alloc_new W (.cells #[.int .i64 fr, .int .i64 te] 77)) (hk1.nt k19) (by simp)
  have hS2:=(show frS2 B W.heap.size w1.heap.size (.slice adl N cl) tt fr xd _ from⟨cell_of_cells hrW.blk 7,cell_of_cells hb3 0,cell_of_cells h9 5,cell_of_cells h9 3⟩).keep (Keeps.drew _)
  have hs9:=hs1.keep k19
  obtain⟨R6,H9,K19,KA,KW,HrW,Hb3,HS2,Hs9⟩:=hid9 r6 h9 k19 kA kW hrW hb3 hS2 hs9;clear hs9 hS2 hb3 hrW kW kA k19 h9 r6
  refine mix_move rfl (fun K hK=> ?_)
  go_simp
  refine hK.out _ _ (by exact Hs9.out) ?_
  clear hK K
  try simp only [Act.put,List.setIfInBounds_toArray,List.set_cons_zero,List.set_cons_succ]
  refine mix_done ?_
  clear z0 z1 z2 z3 z4 z5 z6 z7 z8 y0 y1 y2 y3 y4 y5 y6 y7 y8 hs1
  go_wp2_with fail
  refine wp_region_mixw (frS2 B W.heap.size w1.heap.size (.slice adl N cl) tt fr xd) (.take 0 (.take 1 (.take 2 (.take 3 (.take 4 (.take 5 (.take 6 (.take 7 (.take 8 (.take 9 (.move 10 (.take 11 (.take 12 (.take 13 (.take 14 .done))))))))))))))) (by kernel_rfl) (by kernel_rfl) ?_ ?_
  ·exact HS2.out
  intro w2 hs2 hk2
  repeat (first
   |(refine mix_skip rfl (by rfl) ?_;try simp only [Act.put,List.setIfInBounds_toArray,List.set_cons_zero,List.set_cons_succ])
   |(refine mix_skipm rfl (by rfl) ?_;try simp only [Act.put,List.setIfInBounds_toArray,List.set_cons_zero,List.set_cons_succ])
   |(refine mix_take (v:= ?_) rfl (by rfl) ?_ ?_;rotate_left;(· intro w' hSw;unfold frS2 at hSw;go_simp;(try with_reducible rfl));rotate_right;try simp only [Act.put,List.setIfInBounds_toArray,List.set_cons_zero,List.set_cons_succ]))
  refine mix_move rfl (fun K hK=> ?_)
  go_simp
  go_at_call 123
  ((with_reducible refine(Hgr.out _ (KW.out.nt hk2)).mono ?_);rintro e w3 ⟨rfl,hk3⟩;dsimp only)
  refine hK.out _ _ (by exact hs2.keep hk3) ?_
  clear hK K
  try simp only [Act.put,List.setIfInBounds_toArray,List.set_cons_zero,List.set_cons_succ]
  repeat (first
   |(refine mix_skip rfl (by rfl) ?_;try simp only [Act.put,List.setIfInBounds_toArray,List.set_cons_zero,List.set_cons_succ])
   |(refine mix_skipm rfl (by rfl) ?_;try simp only [Act.put,List.setIfInBounds_toArray,List.set_cons_zero,List.set_cons_succ])
   |(refine mix_take (v:= ?_) rfl (by rfl) ?_ ?_;rotate_left;(· intro w' hSw;unfold frS2 at hSw;go_simp;(try with_reducible rfl));rotate_right;try simp only [Act.put,List.setIfInBounds_toArray,List.set_cons_zero,List.set_cons_succ]))
  refine mix_done ?_
  have hfin:=(KW.out.nt hk2).nt hk3
  clear hs2
  obtain⟨Hfin,Hk2,Hk3⟩:=hid3 hfin hk2 hk3;clear hk3 hk2 hfin
  go_wp2
  exact bodyPost_ret (v:= .tuple #[.bool z, .int .i64 0]) (by simp [results,Tryz.results101,go_sem]) rfl ⟨rfl,Hfin.out⟩
end Go.Proofs.YthcmpcekmkioaaaGreat
namespace Go.Proofs.YthcmpcekmkioaaaGreat
open Go.RowKit
section
variable {w0:World} {X:Fx} {B:Nat} {t:Tm} {n:Nat} {vt:Value} {L:List Ev} {f0 f1 f2:Value} {s:St} {vl vb vr:Value} {g0 g1:Nat} {S0 S1:List SI} {vo:Value} {P:List SV} {W W':World}
theorem RunV.addOut(h:RunV w0 X B t n vt L f0 f1 f2 s vl vb vr g0 g1 S0 S1 vo P W){w4 w5:World}{x:SV}{vo':Value}(hk4:Keeps (fun _=>False) W w4)(hk5:Keeps (fun i=>vo.ownBlock=some i) w4 w5)
  (hr:w5.ownsRow 0 80 9 vo' (P.length+1) ((P++ [x]).flatMap SV.cells)) (hx:w4.ownsRow 0 117 3 x.v x.s.lines.length (x.s.lines.flatMap Ln.cells)) (hxo:Own w0 X x.v) (hf:vo'.ownBlock=vo.ownBlock∨∃g,vo'.ownBlock=some g∧w4.heap.size≤g):
  RunV w0 X B t n vt L f0 f1 f2 { s with out:=s.out++ [x.s] } vl vb vr g0 g1 S0 S1 vo' (P++ [x]) (w5.setCell ⟨B,16,none⟩ vo'):=by
 have h4:=h.keep0 hk4
 have hs4:=hk4.size
 have hs5:=hk5.size
 have nb:∀{e:TypeId} {b:Nat} {c:Array Value},w4.heap[b]?=some (.cells c e (0,0))→e≠80→¬vo.ownBlock=some b:=fun hb hne=>ownsRow_ne h4.out hb hne
 have nr:∀{e:TypeId} {sz m:Nat} {u:Value} {xs:List Value},w4.ownsRow 0 e sz u m xs→e≠80→∀b,u.ownBlock=some b→¬vo.ownBlock=some b:=fun hr' hne b hb e=>rows_ne hr' h4.out hne hb e
 have h5b:=box_old h4.blk hk5 (nb h4.blk (by decide))
 have kB:Keeps (fun i=>i=B) w5 (w5.setCell ⟨B,16,none⟩ vo'):=Keeps.setCell _ _ _ rfl
 have hne:∀{e:TypeId} {sz m:Nat} {v:Value} {xs:List Value},w5.ownsRow 0 e sz v m xs→110≠e→∀i,v.ownBlock=some i→¬i=B:=fun hr hne i hi e=>by subst e;exact ownsRow_ne hr h5b hne hi
 have r5:∀{e:TypeId} {sz m:Nat} {u:Value} {xs:List Value},w4.ownsRow 0 e sz u m xs→e≠80→110≠e→(w5.setCell ⟨B,16,none⟩ vo').ownsRow 0 e sz u m xs:=fun hr' h1 h2=>kB.row (hk5.row hr' (nr hr' h1)) (hne (hk5.row hr' (nr hr' h1)) h2)
 have nog:∀{g:Nat} {c:Array Value},w5.heap[g]?=some (.cells c 22 (0,0))→¬g=B:=fun hg e=>by
  subst e
  rw [hg] at h5b
  injection h5b with h1
  injection h1 with _ h1 _
  exact absurd h1 (by decide)
 have o0:=box_old h4.o0 hk5 (nb h4.o0 (by decide))
 have o1:=box_old h4.o1 hk5 (nb h4.o1 (by decide))
 have hown:Own w0 X vo':=fun b hb=>by
  rcases hf with hf|⟨g,hg,hh⟩
  ·exact h.wo b (hf▸hb)
  ·rw [hg] at hb;simp only [Option.some.injEq] at hb;exact h.new (by omega)
 exact { h4 with
  blk:=(heap_setCell_same _ _ 16 _ _ _ h5b).trans rfl
  trs:=(h4.trs.keeps hk5 (fun b hb e=>by have:=(h.wt b hb).1;have:=(h.wo b e).1;omega)).keeps kB (fun i hi e=>by have e':i=B:=e;have:=(h.wt i hi).1;have:=h.wB.1;omega)
  evs:=r5 h4.evs (by decide) (by decide)
  bal:=r5 h4.bal (by decide) (by decide)
  rts:=r5 h4.rts (by decide) (by decide)
  o0:=box_old o0 kB (nog o0)
  o1:=box_old o1 kB (nog o1)
  i0:=fun y hy=>r5 (h4.i0 y hy) (by decide) (by decide)
  i1:=fun y hy=>r5 (h4.i1 y hy) (by decide) (by decide)
  out:=by rw [List.length_append];exact kB.row hr (hne hr (by decide))
  ln:=fun y hy=>by
   rcases List.mem_append.1 hy with hy|hy
   ·exact r5 (h4.ln y hy) (by decide) (by decide)
   ·obtain rfl:y=x:=by simpa using hy
    exact r5 hx (by decide) (by decide)
  lp:=by rw [List.map_append,h.lp];rfl
  wo:=hown
  wln:=fun y hy=>by
   rcases List.mem_append.1 hy with hy|hy
   ·exact h.wln y hy
   ·obtain rfl:y=x:=by simpa using hy
    exact hxo
  xl:=fun b hb=>Nat.lt_of_lt_of_le (Nat.lt_of_lt_of_le (h4.xl b hb) hs5) kB.size
  fz:=fun b hb=>((kB.block b (Nat.lt_of_lt_of_le (h4.xl b (h4.yx b hb)) hs5) (fun e=>by have e':b=B:=e;exact h.wB.2 (e'▸h.yx b hb))).trans (hk5.block b (h4.xl b (h4.yx b hb)) (fun e=>(h.wo b e).2 (h.yx b hb)))).trans (h4.fz b hb)
  kp:=(h4.kp.trans (hk5.mono fun i _ e=> .inr (h.wo i e).1)).trans (kB.mono fun i _ e=> .inr (by have e':i=B:=e;rw [e'];exact h.wB.1)) }
end
def stm0:Stm:=⟨0,0,0,0,0,0,0,false, []⟩
def cloVal(o:Option (Stm×Ps)):Stm×Ps×Int:=match o with
 |none=>(stm0,ps0,5)
 |some (x,q)=>(x,q,0)
theorem ClosePost.uni{o:Option (Stm×Ps)}{w w':World}{e:Ending}(h:ClosePost o w e w'){x:Stm}{q:Ps}{z:Int}(ho:cloVal o=(x,q,z)):
  ∃al cl ab cb,e= .returned (.tuple #[.agg #[.int .i64 x.cycle, .int .i64 x.fr, .int .i64 x.te, .int .i64 x.due, .slice al x.lines.length cl, .int .i64 x.total, .int .i64 x.credit, .int .i64 x.min, .bool x.grace], .agg #[.slice ab q.bal.length cb, .int .i64 q.cr, .int .i64 q.du], .int .i64 z])∧
   w'.ownsRow 0 117 3 (.slice al x.lines.length cl) x.lines.length (x.lines.flatMap Ln.cells)∧w'.ownsRow 0 2 1 (.slice ab q.bal.length cb) q.bal.length (q.bal.flatMap i64c)∧Keeps (fun _=>False) w w'∧(∀g,(Value.slice al x.lines.length cl).ownBlock=some g→w.heap.size≤g)∧(∀g,(Value.slice ab q.bal.length cb).ownBlock=some g→w.heap.size≤g):=by
 rcases o with _|⟨x',q'⟩
 ·simp only [cloVal,Prod.mk.injEq] at ho
  obtain⟨rfl,rfl,rfl⟩:=ho
  obtain⟨rfl,hk⟩:=h
  exact⟨none,0,none,0,rfl,World.ownsRow_nil _ _ _ _,World.ownsRow_nil _ _ _ _,hk,by simp [Value.ownBlock],by simp [Value.ownBlock]⟩
 ·simp only [cloVal,Prod.mk.injEq] at ho
  obtain⟨rfl,rfl,rfl⟩:=ho
  obtain⟨vl,vb,rfl,h1,h2,h3,h4,h5⟩:=h
  obtain⟨al,cl,rfl,_⟩:=ownsRow_shape h1
  obtain⟨ab,cb,rfl,_⟩:=ownsRow_shape h2
  exact⟨al,cl,ab,cb,rfl,h1,h2,h3,h4,h5⟩
theorem si_reads{S:List SI}{g n:Nat}{W:World}(h:W.heap[g]?=some (.cells (S.map SI.v).toArray 22 (0,0)))(hn:S.length=n):Reads W 1 (.slice (some ⟨g,0,none⟩) n n) n (S.flatMap SI.cells):=by
 have h1:=Reads.blk (size:=1) (n:=n) h (by simp [hn])
 have h2:∀S:List SI,S.flatMap SI.cells=S.map SI.v:=fun S=>by
  induction S with
  |nil=>rfl
  |cons a l ih=>simp [SI.cells,ih]
 rw [h2]
 simpa using h1
theorem intrO_ok{g:Bool}:∀{T:List Tn} {B R:List (List Int)} {V:List Int} {n:Nat},T.length=n→B.length=n→R.length=n→(∀b∈B,∀y∈b,0≤y∧y≤1000000000000000)→(∀r∈R,∀y∈r,0≤y∧y≤10000000)→intrO g T B R=some V→V.length=n∧∀x∈V,0≤x∧x≤1000000000000000:=by
 intro T
 induction T with
 |nil=>intro B R V n h1 h2 h3 _ _ h;simp only [intrO,Option.some.injEq] at h;subst h;simp only [List.length_nil] at h1;subst h1;simp
 |cons x T ih=>
  intro B R V n h1 h2 h3 hB hR h
  rcases B with _|⟨b,B⟩
  ·simp only [List.length_cons,List.length_nil] at h1 h2;omega
  rcases R with _|⟨r,R⟩
  ·simp only [List.length_cons,List.length_nil] at h1 h3;omega
  simp only [List.length_cons] at h1 h2 h3
  have hB':∀b∈B,∀y∈b,0≤y∧y≤1000000000000000:=fun b' hb=>hB b' (List.mem_cons_of_mem _ hb)
  have hR':∀r∈R,∀y∈r,0≤y∧y≤10000000:=fun r' hr=>hR r' (List.mem_cons_of_mem _ hr)
  have hv:0≤(ofR b r).1∧(ofR b r).1≤1000000000000000:=by
   have hd:=dotI_bd b r (hB b (List.mem_cons_self ..)) (hR r (List.mem_cons_self ..))
   unfold ofR
   split
   ·constructor<;>decide
   ·rename_i hz
    refine⟨?_,by simpa using hz⟩
    have h1:0≤dotI b r / 1000000000:=Int.ediv_nonneg hd.1 (by decide)
    show 0≤evenI _ _
    unfold evenI
    split<;>omega
  simp only [intrO] at h
  have key:∀(a:Int),0≤a∧a≤1000000000000000→(intrO g T B R).map (fun l=>a::l)=some V→V.length=n∧∀x∈V,0≤x∧x≤1000000000000000:=fun a ha he=>by
   rcases ho:intrO g T B R with _|V'
   ·rw [ho] at he;cases he
   ·rw [ho,Option.map_some,Option.some.injEq] at he
    subst he
    obtain⟨i1,i2⟩:=ih (n:=n-1) (by omega) (by omega) (by omega) hB' hR' ho
    refine⟨by rw [List.length_cons,i1];omega,fun y hy=> ?_⟩
    rcases List.mem_cons.1 hy with rfl|hy
    ·exact ha
    ·exact i2 y hy
  split at h
  ·exact key 0 (by constructor<;>decide) h
  ·split at h
   ·exact key _ hv h
   ·cases h
theorem closeR_ok{t:Tm}{cy fr te:Int}{p:Ps}{R V:List Int}{g:Bool}{x:Stm}{q:Ps}(hz:t.err=0)(hp:p.rightB=true)(hl:V.length=p.bal.length)(hV:V.all moneyP=true)(h:closeR t cy fr te p R V g=some (x,q)):q.bal.length=p.bal.length∧q.rightB=true:=by
 unfold closeR at h
 have hb:=bearR_err hp hl hV
 split at h
 ·rename_i h0
  rcases hb with⟨_,h1,h2⟩|⟨h1,_⟩
  ·simp only [Option.some.injEq,Prod.mk.injEq] at h
   obtain⟨_,rfl⟩:=h
   refine⟨h2, ?_⟩
   obtain⟨_,_,_,_,⟨f0,_⟩,_⟩:=tm_nums hz
   have h3:=h1
   simp only [Ps.rightB,Bool.and_eq_true,scanB] at h3⊢
   obtain⟨⟨a1,a2⟩,a3,a4,a5,a6,a7⟩:=h3
   have hs:=(moneyP_iff _).1 a2
   have hle:=leastI_bd (mf:=t.minFixed) (mp:=t.minPart) hs.1 f0
   exact⟨⟨a1,a2⟩,a3,a4,a5,(moneyP_iff _).2 (by omega),a7⟩
  ·rw [h0] at h1;cases h1
 ·cases h
def closeS(t:Tm)(L:List Ev)(n:Nat)(s:St)(fr te:Int):Option St:=
 match intrO (freeB s.out fr L) t.trs s.e0 s.e1 with
 |none=>none
 |some V=>match closeR t ((s.out.length:Int)+1) fr te s.p s.R V (freeB s.out fr L) with
  |none=>none
  |some (x,q)=>some { s with p:=q,e0:=List.replicate n [],e1:=List.replicate n [],out:=s.out++ [x] }
end Go.Proofs.YthcmpcekmkioaaaGreat
namespace Go.Proofs.YthcmpcekmkioaaaGreat
open Go.RowKit
section
variable {P:Program} {md:Region.Mode} {ops:Array Oper} {Q:Exit→Act→World→Prop} {S:World→Prop}
def lastI(md:Region.Mode)(ops:Array Oper)(z i:Nat):Bool:=match ops[z]? with
 |none=>true
 |some o=>o.after.any fun e=>Region.binds md e&&e.on==i
theorem wpAnyM_slip2{z i:Nat}{oi:Oper}{v:Value}(hi:ops[i]?=some oi)(hz:lastI md ops z i=true)(hiz:i≠z)(hsel:∀(j:Nat) (o:Oper) cs b,ops[j]?=some o→o.op≠ .select cs b)(hQ:∀c a w,Q (.panic c) (a.put oi.dst v) w→Q (.panic c) a w):
  ∀(fuel:Nat) (listed:Array Bool) (a:Act) (w:World),i∈Region.ready md ops listed→YieldsP P ops S oi v a→S w→
   (∀j oj,ops[j]?=some oj→j≠i→listed.getD j true=false→(∀e∈oj.after,Region.binds md e=true→e.on≠i)→oi.apart ops oj=true)→
   wpAnyM P md ops Q S z fuel (listed.setIfInBounds i true) (a.put oi.dst v) w→wpAnyM P md ops Q S z (fuel+1) listed a w
 |0,listed,a,w,hr,hy,hS,hfree,H=>by
  refine⟨fun h=>absurd hr (by rw [h];simp),fun j hj=> ?_⟩
  by_cases hji:j=i
  ·subst hji;exact hy.wpOp hi hS ⟨.inr hS,H⟩
  ·have hc:=ready_mono hj hji
   rw [H.1] at hc
   simp at hc
 |fuel+1,listed,a,w,hr,hy,hS,hfree,H=>by
  refine⟨fun h=>absurd hr (by rw [h];simp),fun j hj=> ?_⟩
  by_cases hji:j=i
  ·subst hji;exact hy.wpOp hi hS ⟨.inr hS,H⟩
  obtain⟨hun,oj,hoj,hall⟩:=mem_ready.1 hj
  have hi0:=(mem_ready.1 hr).1
  have hno:∀e∈oj.after,Region.binds md e=true→e.on≠i:=by
   intro e he hb heq
   have ht:=hall e he hb
   rw [heq] at ht
   rcases Nat.lt_or_ge i listed.size with hlt|hge
   ·have e1:listed.getD i true=listed[i]:=by simp [hlt]
    have e2:listed.getD i false=listed[i]:=by simp [hlt]
    rw [e1] at hi0;rw [e2,hi0] at ht;simp at ht
   ·have e2:listed.getD i false=false:=by simp [Array.getElem?_eq_none hge]
    rw [e2] at ht;simp at ht
  have hjz:j≠z:=by
   intro e
   subst e
   unfold lastI at hz
   rw [hoj] at hz
   simp only [Array.any_eq_true',Bool.and_eq_true,beq_iff_eq] at hz
   obtain⟨e,he,hb,ho⟩:=hz
   exact hno e he hb ho
  obtain⟨p1,p2,p3⟩:=Oper.apart_spec (hfree j oj hoj hji hun hno)
  have hstep:=wpOp_slip hoj p1 p2 (hsel j oj · · hoj) hQ (Y:=YieldsP P ops S oi v) (fun a u hy=>hy.same (execOp_put oi (hsel i oi · · hi) a oj.dst u p3) (wanted_put oi a oj.dst u p3)) (fun a x hy=>hy.same rfl rfl) hy (H.2 j (ready_mono hj hji))
  refine wpOp_mono (fun a' w' h3=>⟨h3.2.1, ?_⟩) hstep
  have hS':S w':=h3.2.1.resolve_left hjz
  have hfree':∀k ok,ops[k]?=some ok→k≠i→(listed.setIfInBounds j true).getD k true=false→(∀e∈ok.after,Region.binds md e=true→e.on≠i)→oi.apart ops ok=true:=by
   intro k ok hk hki hku hkn
   by_cases hjk:j=k
   ·subst hjk;exact hfree j ok hk hki hun hkn
   ·rw [getD_set_ne true hjk] at hku;exact hfree k ok hk hki hku hkn
  refine wpAnyM_slip2 hi hz hiz hsel hQ fuel _ a' w' (ready_mono hr (Ne.symm hji)) h3.1 hS' hfree' ?_
  rw [Array.setIfInBounds_comm _ _ hji]
  exact h3.2.2
def mixB2(md:Region.Mode)(ops:Array Oper)(z:Nat):MO→Array Bool→Bool
 | .done,listed=>(Region.ready md ops listed).isEmpty
 | .take i r,listed=>(((Region.ready md ops listed).contains i&&Region.free md ops listed i)&&i !=z&&lastI md ops z i)&&mixB2 md ops z r (listed.setIfInBounds i true)
 | .move i r,listed=>(Region.ready md ops listed== [i]&&(i !=z||r.isDone))&&mixB2 md ops z r (listed.setIfInBounds i true)
 | .fork i r j s,listed=>((Region.ready md ops listed== [i,j]&&i !=z)&&j !=z)&&(mixB2 md ops z r (listed.setIfInBounds i true)&&mixB2 md ops z s (listed.setIfInBounds j true))
 | .fork3 ..,_=>false
theorem Mix.sound2{z:Nat}(hs:Region.noSelect ops=true)(hQ:∀(d:Option Tmp) (v:Value) c a w,Q (.panic c) (a.put d v) w→Q (.panic c) a w):
  ∀(ord:MO) (fuel:Nat) (listed:Array Bool) (a:Act) (w:World),ord.depth≤fuel→mixB2 md ops z ord listed=true→(ord.isDone=true∨S w)→Mix P ops Q S z ord a w→wpAnyM P md ops Q S z fuel listed a w
 | .done,fuel,listed,a,w,_,hB,_,h=>wpAnyM_done (by simpa [mixB2] using hB) h _
 | .take i r,fuel,listed,a,w,hd,hB,hS,h=>by
  simp only [mixB2,Bool.and_eq_true,bne_iff_ne] at hB
  obtain⟨⟨⟨⟨h1,h2⟩,hiz⟩,hz⟩,h3⟩:=hB
  obtain⟨o,v,hi,hy,h⟩:=h
  have hS':S w:=hS.resolve_left (by simp [MO.isDone])
  cases fuel with
  |zero=>simp [MO.depth] at hd
  |succ fuel=>
   refine wpAnyM_slip2 hi hz hiz (Region.noSelect_spec hs) (hQ o.dst v) fuel listed a w (by simpa using h1) hy hS' (Region.free_spec hi h2) ?_
   exact Mix.sound2 hs hQ r fuel _ _ _ (by simp only [MO.depth] at hd;omega) h3 (.inr hS') h
 | .move i r,fuel,listed,a,w,hd,hB,hS,h=>by
  simp only [mixB2,Bool.and_eq_true,beq_iff_eq,Bool.or_eq_true,bne_iff_ne] at hB
  obtain⟨⟨h1,h2⟩,h3⟩:=hB
  have hS':S w:=hS.resolve_left (by simp [MO.isDone])
  cases fuel with
  |zero=>simp [MO.depth] at hd
  |succ fuel=>
   have hd':r.depth≤fuel:=by simp only [MO.depth] at hd;omega
   refine⟨fun e=>by rw [h1] at e;simp at e,fun j hj=> ?_⟩
   obtain rfl:j=i:=by rw [h1] at hj;simpa using hj
   rcases h with⟨o,v,hi,hy,h⟩|h
   ·exact hy.wpOp hi hS' ⟨.inr hS',Mix.sound2 hs hQ r fuel _ _ _ hd' h3 (.inr hS') h⟩
   ·refine wpOp_mono (fun a' w' hh=>⟨hh.1,Mix.sound2 hs hQ r fuel _ _ _ hd' h3 ?_ hh.2⟩) h
    rcases hh.1 with e|e
    ·exact .inl (h2.resolve_left fun hn=>hn e)
    ·exact .inr e
 | .fork i r j s,fuel,listed,a,w,hd,hB,hS,h=>by
  simp only [mixB2,Bool.and_eq_true,beq_iff_eq,bne_iff_ne] at hB
  obtain⟨⟨⟨h1,hiz⟩,hjz⟩,h3,h4⟩:=hB
  cases fuel with
  |zero=>simp [MO.depth] at hd
  |succ fuel=>
   have hd1:r.depth≤fuel:=by simp only [MO.depth] at hd;omega
   have hd2:s.depth≤fuel:=by simp only [MO.depth] at hd;omega
   refine⟨fun e=>by rw [h1] at e;simp at e,fun k hk=> ?_⟩
   rw [h1] at hk
   rcases(by simpa using hk:k=i∨k=j) with rfl|rfl
   ·exact wpOp_mono (fun a' w' hh=>⟨hh.1,Mix.sound2 hs hQ r fuel _ _ _ hd1 h3 (.inr (hh.1.resolve_left hiz)) hh.2⟩) h.1
   ·exact wpOp_mono (fun a' w' hh=>⟨hh.1,Mix.sound2 hs hQ s fuel _ _ _ hd2 h4 (.inr (hh.1.resolve_left hjz)) hh.2⟩) h.2
 | .fork3 ..,fuel,listed,a,w,_,hB,_,_=>by simp [mixB2] at hB
theorem wp_region_mixy{id:Nat}{a:Act}{w:World}{l:List Oper}(S:World→Prop)(z:Nat)(ord:MO)(hm:P.follows .mixedOrders=true)(hB:(mixB2 .any l.toArray z ord (Array.replicate l.toArray.size false)&&(Region.noSelect l.toArray&&Nat.ble ord.depth l.toArray.size))=true)
  (hS:S w.drew) (h:∀w1,S w1→Keeps (fun _=>False) w w1→Mix P l.toArray (NoPanic Q) S z ord a w1):(Code.region id l.toArray true).wp P Q a w:=by
 simp only [Bool.and_eq_true,Nat.ble_eq] at hB
 obtain⟨h1,h2,h3⟩:=hB
 exact wp_region_noPanic (wp_region_any hm (wpAny_of_M _ _ _ _ (Mix.sound2 h2 (fun _ _ _ _ _ hh=>(show False from hh).elim) ord _ _ _ _ h3 h1 (.inr hS) (h _ hS (Keeps.drew _)))))
theorem mix_takem{z:Nat}{dst:Option Tmp}{op:Op}{ty:TypeId}{pos:String}{af:Array Edge}{gd:Option (Nat×Bool)}{i:Nat}{r:MO}{v:Value}{a:Act}{w:World}(hi:ops[i]?=some ⟨dst,op,ty,pos,af,gd⟩)(hw:Region.wanted ⟨dst,op,ty,pos,af,gd⟩ (yielded ops a.tmps)=true)
  (hy:∀w,S w→(execOp a.eval ⟨dst,op,ty,pos,af,gd⟩).run P w= .ok (.value v) w) (h:Mix P ops Q S z r (a.put dst v) w):Mix P ops Q S z (.move i r) a w:= .inl ⟨_,v,hi, .inl ⟨hw,fun w hS=> .inl (hy w hS)⟩,h⟩
end
end Go.Proofs.YthcmpcekmkioaaaGreat
namespace Go.Proofs.YthcmpcekmkioaaaGreat
open Go.RowKit
def c4S(B:Nat)(li:Int)(vt:Value)(cy du mf mp st:Int)(v0 v1:Value)(W:World):Prop:=W.cell? ⟨B,0,none⟩=some (.int .i64 li)∧W.cell? ⟨B,1,none⟩=some vt∧W.cell? ⟨B,2,none⟩=some (.int .i64 cy)∧W.cell? ⟨B,3,none⟩=some (.int .i64 du)∧W.cell? ⟨B,4,none⟩=some (.int .i64 mf)∧W.cell? ⟨B,5,none⟩=some (.int .i64 mp)∧W.cell? ⟨B,6,none⟩=some (.int .i64 st)∧W.cell? ⟨B,14,none⟩=some v0∧W.cell? ⟨B,15,none⟩=some v1
theorem c4S.keep{B:Nat}{li:Int}{vt:Value}{cy du mf mp st:Int}{v0 v1:Value}{W W':World}(h:c4S B li vt cy du mf mp st v0 v1 W)(hk:Keeps (fun _=>False) W W'):c4S B li vt cy du mf mp st v0 v1 W':=by
 obtain⟨h1,h2,h3,h4,h5,h6,h7,h8,h9⟩:=h
 have k:∀{p:Addr} {u:Value},W.cell? p=some u→W'.cell? p=some u:=fun hc=>(hk.cell (cell_lt hc) (by simp)).trans hc
 exact⟨k h1,k h2,k h3,k h4,k h5,k h6,k h7,k h8,k h9⟩
def c7S(B b3:Nat)(li:Int)(vt:Value)(cy du mf mp st:Int)(vo vb:Value)(pc pd:Int)(vr:Value)(fr te:Int)(W:World):Prop:=W.cell? ⟨B,0,none⟩=some (.int .i64 li)∧W.cell? ⟨B,1,none⟩=some vt∧W.cell? ⟨B,2,none⟩=some (.int .i64 cy)∧W.cell? ⟨B,3,none⟩=some (.int .i64 du)∧W.cell? ⟨B,4,none⟩=some (.int .i64 mf)∧W.cell? ⟨B,5,none⟩=some (.int .i64 mp)∧W.cell? ⟨B,6,none⟩=some (.int .i64 st)∧
 W.cell? ⟨B,16,none⟩=some vo∧W.cell? ⟨B,10,none⟩=some vb∧W.cell? ⟨B,11,none⟩=some (.int .i64 pc)∧W.cell? ⟨B,12,none⟩=some (.int .i64 pd)∧W.cell? ⟨B,13,none⟩=some vr∧W.cell? ⟨b3,0,none⟩=some (.int .i64 fr)∧W.cell? ⟨b3,1,none⟩=some (.int .i64 te)
theorem c7S.keep{B b3:Nat}{li:Int}{vt:Value}{cy du mf mp st:Int}{vo vb:Value}{pc pd:Int}{vr:Value}{fr te:Int}{W W':World}(h:c7S B b3 li vt cy du mf mp st vo vb pc pd vr fr te W)(hk:Keeps (fun _=>False) W W'):c7S B b3 li vt cy du mf mp st vo vb pc pd vr fr te W':=by
 obtain⟨h1,h2,h3,h4,h5,h6,h7,h8,h9,h10,h11,h12,h13,h14⟩:=h
 have k:∀{p:Addr} {u:Value},W.cell? p=some u→W'.cell? p=some u:=fun hc=>(hk.cell (cell_lt hc) (by simp)).trans hc
 exact⟨k h1,k h2,k h3,k h4,k h5,k h6,k h7,k h8,k h9,k h10,k h11,k h12,k h13,k h14⟩
def r13S(B b8:Nat)(vo:Value)(cy fr te du:Int)(vl:Value)(tt cr mi:Int)(g:Bool)(W:World):Prop:=W.cell? ⟨B,16,none⟩=some vo∧W.cell? ⟨b8,0,none⟩=some (.int .i64 cy)∧W.cell? ⟨b8,1,none⟩=some (.int .i64 fr)∧W.cell? ⟨b8,2,none⟩=some (.int .i64 te)∧W.cell? ⟨b8,3,none⟩=some (.int .i64 du)∧W.cell? ⟨b8,4,none⟩=some vl∧W.cell? ⟨b8,5,none⟩=some (.int .i64 tt)∧W.cell? ⟨b8,6,none⟩=some (.int .i64 cr)∧W.cell? ⟨b8,7,none⟩=some (.int .i64 mi)∧W.cell? ⟨b8,8,none⟩=some (.bool g)
theorem r13S.keep{B b8:Nat}{vo:Value}{cy fr te du:Int}{vl:Value}{tt cr mi:Int}{g:Bool}{W W':World}{S:Nat→Prop}(h:r13S B b8 vo cy fr te du vl tt cr mi g W)(hk:Keeps S W W')(h1:¬S B)(h2:¬S b8):r13S B b8 vo cy fr te du vl tt cr mi g W':=by
 obtain⟨c0,c1,c2,c3,c4,c5,c6,c7,c8,c9⟩:=h
 have k:∀{p:Addr} {u:Value},¬S p.block→W.cell? p=some u→W'.cell? p=some u:=fun hn hc=>(hk.cell (cell_lt hc) hn).trans hc
 exact⟨k h1 c0,k h2 c1,k h2 c2,k h2 c3,k h2 c4,k h2 c5,k h2 c6,k h2 c7,k h2 c8,k h2 c9⟩
theorem r13S.of{B b8:Nat}{vo:Value}{cy fr te du:Int}{vl:Value}{tt cr mi:Int}{g:Bool}{W:World}{C:Array Value}{e:TypeId}(h:W.heap[B]?=some (.cells C e (0,0)))(hv:C[16]?=some vo)(h8:W.heap[b8]?=some (.cells #[.int .i64 cy, .int .i64 fr, .int .i64 te, .int .i64 du,vl, .int .i64 tt, .int .i64 cr, .int .i64 mi, .bool g] 80 (0,0))):r13S B b8 vo cy fr te du vl tt cr mi g W:=
 ⟨(cell_of_cells h 16).trans hv,cell_of_cells h8 0,cell_of_cells h8 1,cell_of_cells h8 2,cell_of_cells h8 3,cell_of_cells h8 4,cell_of_cells h8 5,cell_of_cells h8 6,cell_of_cells h8 7,cell_of_cells h8 8⟩
end Go.Proofs.YthcmpcekmkioaaaGreat
