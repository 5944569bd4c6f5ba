/- Part 1 of what the laws of this seat share: walks of functions, and plain laws. -/
import Derived.Test.YthffbjldpfionaaGreatRows
import Derived.WalkKit
import Derived.WalkSpells
import Derived.WalkLawsBesides
import Derived.Lib.Hide
import Derived.Deep.QuietTactic
import Derived.BigQuiet
import Derived.StillTailTactics
import Derived.Deep.RegionLaw
import Derived.Deep.RegionHeld3
import Derived.Laws.BitsAllLaws
import Derived.Lib.Overlaps
import Derived.Lib.AppendZeros
import Derived.Laws.Externs
import Derived.Maps.RangeWalk
import Derived.Deep.DeepCutAuto
import Derived.Shelf.Bits.Mul64
import Derived.Shelf.Spec.BitsCarry
import Derived.Lib.SliceRun
import Derived.Shelf.Abstract
import Derived.ProofKit
import Derived.OpenShut
import Derived.ShutString
import Derived.ChangeOld
import Derived.Below
import Derived.Deep.Slices
namespace Go.Proofs.YthffbjldpfionaaGreat
open Go.RowKit
theorem jZ110{P:Prop}(h:P:=by
 rw [hr2] at hr
 injection hr with hv hw
 right
 exact⟨w.heap.size,by rw [←hv];rfl,Nat.le_refl _⟩):P:=h
theorem jZ77{P:Prop}(h:P:=by
 rcases Nat.lt_or_ge k L.length with h'|h'
 ·exact h'
 ·simp [List.getElem?_eq_none h'] at hx):P:=h
theorem jZ108{P:Prop}(h:P:=by
 simp only [Value.slice.injEq,true_and] at he
 exact⟨g,o,he.1,by have:=hc 0 (by decide);simpa using this⟩):P:=h
theorem jZ54{P:Prop}(h:P:=by
 obtain⟨Hd,This⟩:=hid2 hd this;clear this hd
 go_enter Tryz.func155,Tryz.ntmps155
 go_wp2
 go_ret
 exact⟨by rw [This.out];rfl,rfl⟩):P:=h
theorem jZ101{P:Prop}(h:P:=by
 rw [Bool.eq_false_iff];intro hm
 have:=List.all_eq_true.1 hm x (List.mem_of_getElem? h)
 rw [hx] at this;simp at this):P:=h
theorem jZ43{P:Prop}(h:P:=by
 go_round
 case rel=>exact⟨j+1,by omega,by go_num,Hok'.out⟩
 case measure=>simp [intOf];omega):P:=h
theorem jZ29{P:Prop}(h:P:=by
 obtain rfl:j=L.length:=by omega
 rw [List.take_length] at hok
 have Hok:=Lib.hid hok;clear hok
 go_wp2_with fail
 go_ret
 exact⟨_,rfl,by rw [Hok.out];rfl,rfl⟩):P:=h
theorem jZ88{P:Prop}(h:P:=by
 go_ret
 exact⟨by rw [←Hd.out];rfl,rfl⟩):P:=h
theorem jZ44{P:Prop}(h:P:=by
 go_enter Tryz.func115,Tryz.ntmps115
 go_wp2
 go_ret
 exact⟨by rw [Hf.out];simp,(Keeps.alloc _ _).trans (Keeps.alloc _ _)⟩):P:=h
theorem jZ42{P:Prop}(h:P:=by
 go_wp2
 go_ret
 exact⟨_,rfl,World.ownsRow_nil _ _ _ _,Keeps.refl _ _,by simp [Value.ownBlock]⟩):P:=h
theorem jZ16{P:Prop}(h:P:=by
 refine⟨by simpa using hown1,(Keeps.alloc w _).trans (hk1.mono fun k _ hk=> ?_),fun k hk=> ?_⟩
 ·simp only [Value.ownBlock,Option.some.injEq] at hk;omega
 ·rcases hfr with hf|⟨g,hg,hh⟩
  ·rw [hf] at hk;simp only [Value.ownBlock,Option.some.injEq] at hk;omega
  ·rw [hg] at hk;simp only [Option.some.injEq] at hk;omega):P:=h
theorem jZ57{P:Prop}(h:P:=by
 have Hend:=Lib.hid hend;clear hend hown1 hk1 hfr
 go_wp2
 go_ret
 exact⟨_,rfl,Hend.out⟩):P:=h
theorem jZ45{P:Prop}(h:P:=by
 obtain⟨h0,h1,h2,h3,h4,h5,h6,h7⟩:=h
 exact⟨(hk.cell (Ag h0) (by simp)).trans h0,(hk.cell (Ag h1) (by simp)).trans h1,(hk.cell (Ag h2) (by simp)).trans h2,(hk.cell (Ag h3) (by simp)).trans h3,(hk.cell (Ag h4) (by simp)).trans h4,(hk.cell (Ag h5) (by simp)).trans h5,(hk.cell (Ag h6) (by simp)).trans h6,(hk.cell (Ag h7) (by simp)).trans h7⟩):P:=h
theorem jZ70{P:Prop}(h:P:=by
 refine wp_scope_jumps2 l J M hf (fun a w hJ=>wp_seq (wp_skip (round a w hJ))) fun _=>first fun a w hJ=>Code.wp_mono ?_ (round a w hJ)
 intro e a' w' h
 cases e with
 |goto k=>exact⟨h.1,h.2.1⟩
 |_=>exact h):P:=h
theorem jZ17{P:Prop}(h:P:=by
 have hlin2:=Hlin.out
 rw [hne] at hlin2
 clear hne
 obtain⟨adv,cv,rfl,_,_⟩:=Aj Hs5.out.row
 obtain⟨m,hm⟩:∃m,(Cg seq a.cycle a.lines b.lines k).length=m:=⟨_,rfl⟩
 have hrow5:=Hs5.out.row
 have h55:=Hs5.out
 rw [hm] at hlo hrow5 h55⊢
 obtain⟨Hlin2,Hm,Hrow5,H55⟩:=hid4 hlin2 hm hrow5 h55;clear h55 hrow5 hm hlin2
 go_wp2_with (at_builtin;refine Ba rfl (.tmp 65) (.tmp 81) 66 rfl 0 70 i0 _ 9 72 Tryz.underlying66 Hi.out Hi0.out Hi1.out Hi2.out rfl (by decide) (.slice adv m cv) m _ rfl (Hrow5.out.alloc _) _ 1 _ rfl (Reads.litAt _ _ _ 9 1 _ (by first|rfl|simp) rfl) (by simp [Value.oneCell']) (by unfold maxLen;omega) (by omega) (Nat.zero_le _) ?_)
 intro v' w' hown hk' hf
 have happ:OneS w w' seq a b (.slice (some ⟨g,o,none⟩) n ca) (.slice (some ⟨g',o',none⟩) n cb) W0 v' (k+1):=
  (H55.out.keep (Keeps.alloc _ _)).app Hlin2.out (by rw [Hm.out]) (by first|rfl|simp [Adj.cells]) hown hk' (by simpa using hf)
 have Happ:=Lib.hid happ
 clear happ hown hk' hf
 go_wp2_with fail
 go_step3
 go_wp2
 exact Az ⟨oneJ.mk W0 v' (k+1) rfl (by rw [Hn.out];exact Happ.out) (by rw [Hn.out];omega),by rw [Hn.out];simp [slotNat];omega⟩):P:=h
theorem jZ5{P:Prop}(h:P:=by
 obtain⟨Hs,Hra,Hrb,Hn,Hws,Hend,Hm,Hrow⟩:=hid8 hs hra hrb hn hws hend hm hrow;clear hrow hm hend hws hn hrb hra hs
 go_wp2_with (at_builtin;refine Ba rfl (.tmp 89) (.tmp 91) 66 rfl 0 70 i0 _ 9 72 Tryz.underlying66 Hi.out Hi0.out Hi1.out Hi2.out rfl (by decide) (.slice adv m cv) m _ rfl (Hrow.out.alloc _) _ 1 _ rfl (Reads.litAt _ _ _ 9 1 _ (by first|rfl|simp) rfl) (by simp [Value.oneCell']) (by unfold maxLen;omega) (by omega) (Nat.zero_le _) ?_)
 intro v' w' hown hk' hf
 have hz:OnePost w seq a b (.returned v') w':=by
  have hn1:∀g,(Value.slice adv m cv).ownBlock=some g→w.heap.size≤g:=fun g hg=>by have:=Hs.out.nw g hg;have:=Hs.out.w0;omega
  refine⟨v',rfl, ?_,(Hs.out.kp.Bn (Keeps.alloc _ _)).trans (hk'.mono fun i _ e=> .inr (hn1 i e)),fun g hg=> ?_⟩
  ·rw [Hend.out]
   simp only [List.length_append,List.length_singleton,List.flatMap_append,List.flatMap_cons,List.flatMap_nil,List.append_nil,Hm.out]
   exact hown
  ·rcases hf with e|⟨g',e,h'⟩
   ·exact hn1 g (by rw [←e];exact hg)
   ·rw [e] at hg;simp only [Option.some.injEq] at hg;have:=Hs.out.kp.size;try simp at h'
    omega
 have Hz:=Lib.hid hz
 clear hz hown hk' hf
 go_wp2_with fail
 refine Bl ?_
 go_ret
 exact Hz.out):P:=h
theorem jZ82{P:Prop}(h:P:=by
 rcases h.2 with⟨rfl,_⟩|⟨g',cap,cur,rfl,_,hh,_⟩
 ·simp [Value.ownBlock] at hv
 ·simp only [Value.ownBlock,Option.some.injEq] at hv;subst hv;exact lt_of_block hh):P:=h
theorem jZ83{P:Prop}(h:P:=by
 rw [Nat.mul_one,Nat.add_zero] at this;exact this):P:=h
theorem jZ41{P:Prop}(h:P:=by
 rcases h.1.2 with⟨h0,_⟩|⟨g1,cap1,cur,h0,_,hh,_⟩
 ·simp at h0
 ·simp only [Value.slice.injEq,Option.some.injEq,Addr.mk.injEq,and_true,true_and] at h0
  obtain⟨rfl,_⟩:=h0
  exact Ab hh j):P:=h
theorem jZ66{P:Prop}(h:P:=by
 obtain⟨h1,h2⟩:=h
 obtain⟨y,hy⟩:=Av (L:=O) (k:=k) (by omega)
 subst h2
 have:=owns_store Cc h1 hy 0 (by decide) (y:=x) (u:= .int .i64 x) rfl
 simp only [Nat.mul_one,Nat.add_zero] at this
 exact⟨this,by simp⟩):P:=h
theorem hid2{a0 a1:Prop}(h0:a0)(h1:a1):Hid a0∧Hid a1:=⟨h0,h1⟩
theorem hid3{a0 a1 a2:Prop}(h0:a0)(h1:a1)(h2:a2):Hid a0∧Hid a1∧Hid a2:=⟨h0,h1,h2⟩
theorem hid4{a0 a1 a2 a3:Prop}(h0:a0)(h1:a1)(h2:a2)(h3:a3):Hid a0∧Hid a1∧Hid a2∧Hid a3:=⟨h0,h1,h2,h3⟩
theorem hid5{a0 a1 a2 a3 a4:Prop}(h0:a0)(h1:a1)(h2:a2)(h3:a3)(h4:a4):Hid a0∧Hid a1∧Hid a2∧Hid a3∧Hid a4:=⟨h0,h1,h2,h3,h4⟩
theorem hid6{a0 a1 a2 a3 a4 a5:Prop}(h0:a0)(h1:a1)(h2:a2)(h3:a3)(h4:a4)(h5:a5):Hid a0∧Hid a1∧Hid a2∧Hid a3∧Hid a4∧Hid a5:=⟨h0,h1,h2,h3,h4,h5⟩
theorem hid7{a0 a1 a2 a3 a4 a5 a6:Prop}(h0:a0)(h1:a1)(h2:a2)(h3:a3)(h4:a4)(h5:a5)(h6:a6):Hid a0∧Hid a1∧Hid a2∧Hid a3∧Hid a4∧Hid a5∧Hid a6:=⟨h0,h1,h2,h3,h4,h5,h6⟩
theorem hid8{a0 a1 a2 a3 a4 a5 a6 a7:Prop}(h0:a0)(h1:a1)(h2:a2)(h3:a3)(h4:a4)(h5:a5)(h6:a6)(h7:a7):Hid a0∧Hid a1∧Hid a2∧Hid a3∧Hid a4∧Hid a5∧Hid a6∧Hid a7:=⟨h0,h1,h2,h3,h4,h5,h6,h7⟩
theorem hid9{a0 a1 a2 a3 a4 a5 a6 a7 a8:Prop}(h0:a0)(h1:a1)(h2:a2)(h3:a3)(h4:a4)(h5:a5)(h6:a6)(h7:a7)(h8:a8):Hid a0∧Hid a1∧Hid a2∧Hid a3∧Hid a4∧Hid a5∧Hid a6∧Hid a7∧Hid a8:=⟨h0,h1,h2,h3,h4,h5,h6,h7,h8⟩
theorem aps:(∀ (a:Act) (d:Tmp) (v:Value),a.put (some d) v={a with tmps:=a.tmps.setIfInBounds d v})∧(∀ (a:Act) (v:Value),a.put none v=a)∧(∀ (l:List Value) (i:Nat) (v:Value),l.toArray.setIfInBounds i v=(l.set i v).toArray)∧(∀ (a b:Value) (l:List Value),(a::l).set 0 b=b::l)∧∀ (a b:Value) (l:List Value) (n:Nat),(a::l).set (n+1) b=a::l.set n b:=⟨fun _ _ _=>rfl,fun _ _=>rfl,fun _ _ _=>by simp,fun _ _ _=>rfl,fun _ _ _ _=>rfl⟩
end Go.Proofs.YthffbjldpfionaaGreat
namespace Go.Proofs.YthffbjldpfionaaGreat
open Go.RowKit
theorem Be{P:Program}{a:Act}{w:World}{Q:Exit→Act→World→Prop}{c rest:Code}(l:Nat)(hf:findLabel c l=some rest)
  (h:c.wp P (Exit.jump l (fun a' w'=>rest.wp P (Exit.noGoto Q) a' w') Q) a w):(Code.scope c).wp P Q a w:=by
 refine wp_scope_jumps l (fun a' w'=>rest.wp P (Exit.noGoto Q) a' w') (fun _ _=>0) hf h ?_
 intro a w hJ
 refine Code.wp_mono ?_ hJ
 intro e a w hq
 cases e<;>first|exact hq|exact hq.elim
theorem Az{l:Nat}{J:Act→World→Prop}{Q:Exit→Act→World→Prop}{a:Act}{w:World}(h:J a w):Exit.jump l J Q (.goto l) a w:=⟨rfl,h⟩
theorem Bl{l:Nat}{J:Act→World→Prop}{Q:Exit→Act→World→Prop}{a:Act}{w:World}(h:Q .ret a w):Exit.jump l J Q .ret a w:=h
structure Keeps(S:Nat→Prop)(w w':World):Prop where
 os:w'.os=w.os
 tape:w'.tape=w.tape
 output:w'.output=w.output
 size:w.heap.size≤w'.heap.size
 block:∀k,k<w.heap.size→¬S k→w'.heap[k]?=w.heap[k]?
theorem Keeps.refl(S:Nat→Prop)(w:World):Keeps S w w:=⟨rfl,rfl,rfl,Nat.le_refl _,fun _ _ _=>rfl⟩
theorem Keeps.mono{S T:Nat→Prop}{w w':World}(h:Keeps S w w')(hST:∀k,k<w.heap.size→S k→T k):Keeps T w w':=
 ⟨h.os,h.tape,h.output,h.size,fun k hk hn=>h.block k hk fun hs=>hn (hST k hk hs)⟩
theorem Keeps.trans{S:Nat→Prop}{a b c:World}(h:Keeps S a b)(k:Keeps (fun i=>S i∨a.heap.size≤i) b c):Keeps S a c:=
 ⟨k.os.trans h.os,k.tape.trans h.tape,k.output.trans h.output,Nat.le_trans h.size k.size,
  fun i hi hn=>(k.block i (Nat.lt_of_lt_of_le hi h.size) (fun hh=>hh.elim hn (fun hh=>by omega))).trans (h.block i hi hn)⟩
theorem Keeps.below{S:Nat→Prop}{B:Nat}{w w':World}(h:Keeps S w w')(hS:∀k,k<B→¬S k)(hB:B≤w.heap.size):Below B w w':=
 ⟨h.os,h.tape,h.output,h.size,fun k hk=>h.block k (by omega) (hS k hk)⟩
theorem Keeps.grown{w w':World}{row:Option Nat}(h:w.grownBy w' row):Keeps (fun k=>row=some k) w w':=⟨h.os,h.tape,h.output,h.size,fun k hk hn=>h.block k hk fun e=>hn e.symm⟩
theorem Keeps.grownBy{w w':World}{row:Option Nat}(h:Keeps (fun k=>row=some k) w w'):w.grownBy w' row:=⟨h.os,h.tape,h.output,h.size,fun k hk hn=>h.block k hk fun e=>hn e.symm⟩
theorem Keeps.drewN{S:Nat→Prop}(w:World)(n:Nat):Keeps S w (w.drewN n):=⟨rfl,rfl,rfl,Nat.le_refl _,fun _ _ _=>rfl⟩
theorem Keeps.drew{S:Nat→Prop}(w:World):Keeps S w w.drew:=⟨rfl,rfl,rfl,Nat.le_refl _,fun _ _ _=>rfl⟩
theorem Keeps.alloc{S:Nat→Prop}(w:World)(o:Obj):Keeps S w (w.alloc o):=⟨rfl,rfl,rfl,by simp,fun k hk _=>Below.heap_alloc _ _ _ hk⟩
theorem Keeps.setCell{S:Nat→Prop}(w:World)(a:Addr)(u:Value)(h:S a.block):Keeps S w (w.setCell a u):=
 ⟨rfl,rfl,rfl,by simp [World.setCell],fun k _ hn=>Below.heap_setCell _ _ _ _ (fun e=>hn (e▸h))⟩
theorem Keeps.cell{S:Nat→Prop}{w w':World}(h:Keeps S w w'){p:Addr}(hp:p.block<w.heap.size)(hn:¬S p.block):w'.cell? p=w.cell? p:=World.cell?_of_block (w:=w) (h.block p.block hp hn)
theorem Keeps.row{S:Nat→Prop}{w w':World}(h:Keeps S w w'){base:Nat}{e:TypeId}{size:Nat}{v:Value}{n:Nat}{xs:List Value}(hown:w.ownsRow base e size v n xs)(hn:∀k,v.ownBlock=some k→¬S k):
  w'.ownsRow base e size v n xs:=by
 obtain⟨h1,h2⟩:=hown
 refine⟨h1, ?_⟩
 rcases h2 with h2|⟨g,cap,cur,hv,hg,hh,r⟩
 ·exact .inl h2
 ·exact .inr ⟨g,cap,cur,hv,hg,by rw [h.block g (lt_of_block hh) (hn g (by rw [hv];rfl))];exact hh,r⟩
theorem add_block(a:Addr)(n:Nat):(a.add n).block=a.block:=by unfold Addr.add;split<;>rfl
theorem Ag{w:World}{a:Addr}{u:Value}(ha:w.cell? a=some u):a.block<w.heap.size:=by
 unfold World.cell? at ha
 rcases hb:w.heap[a.block]? with _|o
 ·rw [hb] at ha;simp at ha
 ·exact lt_of_block hb
theorem add_mk(g o j:Nat):(⟨g,o,none⟩:Addr).add j=⟨g,o+j,none⟩:=by unfold Addr.add;split<;>simp_all
def Reads(w:World)(size:Nat)(x:Value)(m:Nat)(news:List Value):Prop:=
 ∃ad c,x= .slice ad m c∧m≤c∧news.length=m*size∧(ad=none→c=0)∧∀j u,news[j]?=some u→∃g o,ad=some ⟨g,o,none⟩∧w.cell? ⟨g,o+j,none⟩=some u
theorem Reads.Bh{w:World}{base:Nat}{e:TypeId}{size:Nat}{v:Value}{n:Nat}{xs:List Value}(h:w.ownsRow base e size v n xs):Reads w size v n xs:=by
 have hc:=fun g (hg:v.ownBlock=some g)=>h.cells hg
 obtain⟨h1,⟨rfl,rfl⟩|⟨g,cap,cur,rfl,_,_,hn,_⟩⟩:=h
 ·exact⟨none,0,rfl,Nat.le_refl _,h1,fun _=>rfl,fun j u hj=>by have:xs= []:=List.eq_nil_of_length_eq_zero (by simpa using h1);subst this;simp at hj⟩
 ·exact⟨some ⟨g,0,none⟩,cap,rfl,hn,h1,by simp,fun j u hj=>⟨g,0,rfl,by rw [←add_mk];exact hc g rfl j u hj⟩⟩
theorem Reads.nil(w:World)(size:Nat):Reads w size (.slice none 0 0) 0 []:=⟨none,0,rfl,Nat.le_refl _,by simp,fun _=>rfl,fun j u hj=>by simp at hj⟩
theorem Reads.keeps{S:Nat→Prop}{w w':World}{size:Nat}{x:Value}{m:Nat}{news:List Value}(h:Reads w size x m news)(hk:Keeps S w w')
  (hS:∀k,x.ownBlock=some k→¬S k):Reads w' size x m news:=by
 obtain⟨ad,c,rfl,h1,h2,h3,h4⟩:=h
 refine⟨ad,c,rfl,h1,h2,h3,fun j u hj=> ?_⟩
 obtain⟨g,o,rfl,ha⟩:=h4 j u hj
 exact⟨g,o,rfl,by rw [hk.cell (Ag ha) (hS g rfl)];exact ha⟩
theorem run_append_row{P:Program}(w:World)(base:Nat)(t ty e:TypeId)(i:TypeInfo)(z:Value)(size bytes:Nat)(ht:P.underlying t=some (.slice e))(hi:P.info? e=some i)(hz:i.zero=some z)
  (hsize:i.size=size) (hby:i.bytes=bytes) (hzs:z.cells.size=size) (hsz:0<size)
  (v:Value) (n:Nat) (xs:List Value) (hown:w.ownsRow base e size v n xs)
  (x:Value) (m:Nat) (news:List Value) (hx:Reads w size x m news) (h1:∀u∈news,u.oneCell'=true)
  (h63:n+m≤maxLen) (hbytes:(n+m)*bytes≤140737488355328) (hbase:base≤w.heap.size):
  ∃v' w',(Builtin.append_ #[t,t] ty #[v,x]).run P w= .ok v' w'∧w'.ownsRow base e size v' (n+m) (xs++news)∧Keeps (fun k=>v.ownBlock=some k) w w'∧
   (v'.ownBlock=v.ownBlock∨∃g,v'.ownBlock=some g∧w.heap.size≤g)∧(v'= .slice none 0 0↔v= .slice none 0 0∧m=0):=by
 obtain⟨ad,c,rfl,hmc,hl,hnone,hnews⟩:=hx
 rcases ad with _|a
 ·have hc0:=hnone rfl
  subst hc0
  obtain rfl:m=0:=by omega
  obtain rfl:news= []:=List.eq_nil_of_length_eq_zero (by simpa using hl)
  have hr:=run_append_owned_none (P:=P) w base t ty e i size ht hi v n xs hown
  exact⟨v,w,hr,by simpa using hown,Keeps.refl _ _,.inl rfl,by simp⟩
 ·have hnews':∀j u,news[j]?=some u→w.cell? (a.add j)=some u:=fun j u hj=>by
   obtain⟨g,o,ha',hh⟩:=hnews j u hj
   cases ha'
   rw [add_mk]
   exact hh
  obtain⟨v',w',hr,hown',hgr,hnil⟩:=run_append_own (P:=P) w base t ty e i z size bytes ht hi hz hsize hby hzs hsz v n xs hown a m c news hl hnews' h1 h63 hbytes hbase
  refine⟨v',w',hr,hown',Keeps.grown hgr, ?_,hnil⟩
  subst hsize
  subst hby
  have hm63:n+m≤9223372036854775807:=by simp only [maxLen] at h63;omega
  rcases hown.2 with⟨rfl,rfl⟩|⟨g,cap,cur,rfl,hbg,hg,hnc,hcm,hcs,htake⟩
  ·by_cases hm:m=0
   ·left;rw [hnil.2 ⟨rfl,hm⟩]
   ·have hr2:=run_append_nil (P:=P) w t ty e i z ht hi hz a m c news hl hnews' (by omega) (by omega) (by have hb:=hbytes;simp only [Nat.zero_add] at hb;omega)
    exact jZ110
  ·by_cases hroom:n+m≤cap
   ·have hfit:n*i.size+news.length≤cur.size:=by rw [hl,hcs,←Nat.add_mul];exact Nat.mul_le_mul_right _ hroom
    have hr2:=run_append_room (P:=P) w t ty e i ht hi g n cap cur hg a m c news hl hnews' h1 hroom hfit
    rw [hr2] at hr
    injection hr with hv hw
    left
    rw [←hv];rfl
   ·have holds:∀j u,xs[j]?=some u→w.cell? ((⟨g,0,none⟩:Addr).add j)=some u:=hown.cells (g:=g) rfl
    have hr2:=run_append_grow (P:=P) w t ty e i z ht hi hz ⟨g,0,none⟩ n cap xs hown.1 holds a m c news hl hnews' (by omega) (by omega) (growslice_fits (by omega) hbytes)
    exact jZ110
theorem Ba{P:Program}{w:World}{ops:Array Oper}{rest:List Oper}{o:Oper}{a:Act}{Q:Exit→Act→World→Prop}(hgd:o.guard=none)(s x:Operand)(t:TypeId)
  (ho:o.op= .call { callee:= .builtin .append,args:= #[s,x],argTypes:= #[t,t] })
  (base:Nat) (e:TypeId) (i:TypeInfo) (z:Value) (size bytes:Nat) (ht:P.underlying t=some (.slice e)) (hi:P.info? e=some i) (hz:i.zero=some z)
  (hsize:i.size=size) (hby:i.bytes=bytes) (hzs:z.cells.size=size) (hsz:0<size)
  (v:Value) (n:Nat) (xs:List Value) (hs:a.eval s=v) (hown:w.ownsRow base e size v n xs)
  (xv:Value) (m:Nat) (news:List Value) (hx:a.eval x=xv) (hxr:Reads w size xv m news) (h1:∀u∈news,u.oneCell'=true)
  (h63:n+m≤maxLen) (hbytes:(n+m)*bytes≤140737488355328) (hbase:base≤w.heap.size)
  (h:∀v' w',w'.ownsRow base e size v' (n+m) (xs++news)→Keeps (fun k=>v.ownBlock=some k) w w'→(v'.ownBlock=v.ownBlock∨∃g,v'.ownBlock=some g∧w.heap.size≤g)→wpList P ops Q rest (a.put o.dst v') w'):wpList P ops Q (o::rest) a w:=by
 refine wpList_plain hgd fun K hK=> ?_
 obtain⟨v',w',hr,h2,h3,h4,_⟩:=run_append_row (P:=P) w base t o.type e i z size bytes ht hi hz hsize hby hzs hsz v n xs hown xv m news hxr h1 h63 hbytes hbase
 unfold Oper.wp execOp
 simp only [ho,resolve,invoke,builtin,Sem.run_bind,Sem.run_pure,Result.andThen_ok,List.map_toArray,List.map_cons,List.map_nil,hs,hx,hr]
 exact hK _ _ (h v' w' h2 h3 h4)
theorem Aa{w:World}{b:Nat}{c:Array Value}{t:TypeId}{fz:Nat×Nat}(hb:w.heap[b]?=some (.cells c t fz))(j:Nat):w.cell? ⟨b,j,none⟩=c[j]?:=by simp [World.cell?,hb]
theorem Reads.lit(w:World)(cs:Array Value)(e:TypeId)(size n:Nat)(hs:cs.size=n*size):Reads (w.alloc (.cells cs e)) size (.slice (some ⟨w.heap.size,0,none⟩) n n) n cs.toList:=
 ⟨some ⟨w.heap.size,0,none⟩,n,rfl,Nat.le_refl _,by simpa using hs,by simp,fun j u hj=>⟨w.heap.size,0,rfl,by
  have hb:(w.alloc (.cells cs e)).heap[w.heap.size]?=some (.cells cs e (0,0)):=heap_alloc_new w _
  rw [Aa hb,Nat.zero_add]
  simpa using hj⟩⟩
theorem Aq{w:World}{base:Nat}{e:TypeId}{size:Nat}{v:Value}{n:Nat}{xs:List Value}(h:w.ownsRow base e size v n xs){b:Nat}{c:Array Value}{t:TypeId}{fz:Nat×Nat}
  (hb:w.heap[b]?=some (.cells c t fz)) (hne:t≠e):v.ownBlock≠some b:=by
 intro hv
 rcases h.2 with⟨rfl,_⟩|⟨g,cap,cur,rfl,_,hg,_⟩
 ·simp [Value.ownBlock] at hv
 ·simp only [Value.ownBlock,Option.some.injEq] at hv
  subst hv
  rw [hb] at hg
  injection hg with hg
  injection hg with _ he _
  exact hne he
theorem Aj{w:World}{base:Nat}{e:TypeId}{size:Nat}{v:Value}{n:Nat}{xs:List Value}(h:w.ownsRow base e size v n xs):∃ad cap,v= .slice ad n cap∧n≤cap∧(ad=none→cap=0):=by
 rcases h.2 with⟨h,h'⟩|⟨g,cap,cur,h,_,_,h',_⟩
 ·exact⟨none,0,by rw [h,h'],by omega,fun _=>rfl⟩
 ·exact⟨_,cap,h,h',by simp⟩
theorem Ab{w:World}{b:Nat}{c:Array Value}{t:TypeId}(hb:w.heap[b]?=some (.cells c t (0,0)))(j:Nat):w.frozen? ⟨b,j,none⟩=false:=by simp [World.frozen?,hb]
section flat
variable {α:Type} {f:α→List Value} {size:Nat} (hf:∀x,(f x).length=size)
include hf
theorem Dl(L:List α):(L.flatMap f).length=L.length*size:=by
 induction L with
 |nil=>simp
 |cons a l ih=>simp [List.flatMap_cons,hf,ih,Nat.add_mul];omega
theorem flat_get{L:List α}{k j:Nat}{x:α}(hx:L[k]?=some x)(hj:j<size):(L.flatMap f)[k*size+j]?=(f x)[j]?:=by
 induction L generalizing k with
 |nil=>simp at hx
 |cons a l ih=>
  rw [List.flatMap_cons]
  cases k with
  |zero=>
   simp only [List.getElem?_cons_zero,Option.some.injEq] at hx
   subst hx
   rw [List.getElem?_append_left (by rw [hf];omega)]
   simp
  |succ k=>
   have hx':l[k]?=some x:=by simpa using hx
   rw [List.getElem?_append_right (by rw [hf,Nat.succ_mul];omega),hf,←ih hx']
   congr 1
   rw [Nat.succ_mul]
   omega
theorem flat_set{L:List α}{k j:Nat}{x y:α}{u:Value}(hx:L[k]?=some x)(hj:j<size)(hy:(f x).set j u=f y):(L.flatMap f).set (k*size+j) u=(L.set k y).flatMap f:=by
 induction L generalizing k with
 |nil=>simp at hx
 |cons a l ih=>
  rw [List.flatMap_cons]
  cases k with
  |zero=>
   simp only [List.getElem?_cons_zero,Option.some.injEq] at hx
   subst hx
   rw [List.set_append_left _ _ (by rw [hf];omega)]
   simp [hy]
  |succ k=>
   have hx':l[k]?=some x:=by simpa using hx
   rw [List.set_append_right _ _ (by rw [hf,Nat.succ_mul];omega),hf,List.set_cons_succ,List.flatMap_cons,←ih hx']
   congr 2
   rw [Nat.succ_mul]
   omega
theorem Bi{w:World}{base:Nat}{e:TypeId}{g cap:Nat}{L:List α}(h:w.ownsRow base e size (.slice (some ⟨g,0,none⟩) L.length cap) L.length (L.flatMap f)){k:Nat}{x:α}(hx:L[k]?=some x)(j:Nat)(hj:j<size):
  w.cell? ⟨g,k*size+j,none⟩=(f x)[j]?:=by
 have hk:k<L.length:=by
  exact jZ77
 have:(k+1)*size≤L.length*size:=Nat.mul_le_mul_right _ hk
 rw [Nat.succ_mul] at this
 rw [h.cellAt _ (by omega),flat_get hf hx hj]
theorem Reads.elem{w:World}{x:Value}{n:Nat}{L:List α}(h:Reads w size x n (L.flatMap f)){k:Nat}{a:α}(hx:L[k]?=some a)(hs:0<size):
  ∃g o c,x= .slice (some ⟨g,o,none⟩) n c∧∀j,j<size→w.cell? ⟨g,o+k*size+j,none⟩=(f a)[j]?:=by
 obtain⟨ad,c,rfl,h1,h2,h3,h4⟩:=h
 have key:∀j,j<size→∃u,(f a)[j]?=some u:=fun j hj=>⟨(f a)[j]'(by rw [hf];exact hj),List.getElem?_eq_getElem _⟩
 obtain⟨u0,hu0⟩:=key 0 hs
 obtain⟨g,o,rfl,_⟩:=h4 (k*size+0) u0 (by rw [flat_get hf hx hs];exact hu0)
 refine⟨g,o,c,rfl,fun j hj=> ?_⟩
 obtain⟨u,hu⟩:=key j hj
 obtain⟨g',o',he,hc⟩:=h4 (k*size+j) u (by rw [flat_get hf hx hj];exact hu)
 simp only [Option.some.injEq,Addr.mk.injEq,and_true] at he
 obtain⟨rfl,rfl⟩:=he
 rw [hu,Nat.add_assoc]
 exact hc
theorem owns_store{w:World}{base:Nat}{e:TypeId}{g cap:Nat}{L:List α}(h:w.ownsRow base e size (.slice (some ⟨g,0,none⟩) L.length cap) L.length (L.flatMap f)){k:Nat}{x y:α}(hx:L[k]?=some x)(j:Nat)(hj:j<size)
  {u:Value} (hy:(f x).set j u=f y):(w.setCell ⟨g,k*size+j,none⟩ u).ownsRow base e size (.slice (some ⟨g,0,none⟩) L.length cap) L.length ((L.set k y).flatMap f):=by
 have:=(h.stored (k*size+j) u).1
 rwa [flat_set hf hx hj hy] at this
end flat
theorem Cu{w:World}{base:Nat}{e:TypeId}{size:Nat}{v:Value}{n:Nat}{xs:List Value}(h:w.ownsRow base e size v n xs)(hn:0<n):∃g cap,v= .slice (some ⟨g,0,none⟩) n cap∧g<w.heap.size:=by
 rcases h.2 with⟨_,h'⟩|⟨g,cap,cur,h,_,hh,_⟩
 ·omega
 ·exact⟨g,cap,h,lt_of_block hh⟩
theorem setCell_twice(w:World)(a:Addr)(u v:Value):(w.setCell a u).setCell a v=w.setCell a v:=by
 unfold World.setCell
 congr 1
 apply Array.ext_getElem?
 intro i
 simp only [Array.getElem?_modify]
 split
 ·rename_i h
  subst h
  rcases w.heap[a.block]? with _|o
  ·rfl
  ·cases o<;>simp
   split<;>simp [Array.setIfInBounds_setIfInBounds]
 ·rfl
theorem Ck{α:Type}{L:List α}{k:Nat}{x:α}(hx:L[k]?=some x):k<L.length:=by
 exact jZ77
theorem Below.keeps{B:Nat}{w a b:World}{S:Nat→Prop}(h:Below B w a)(hk:Keeps S a b)(hS:∀k,S k→B≤k)(hB:B≤w.heap.size):Below B w b:=
 h.trans (hk.below (fun k hk hs=>by have:=hS k hs;omega) (Nat.le_trans hB h.size))
end Go.Proofs.YthffbjldpfionaaGreat
namespace Go.Proofs.YthffbjldpfionaaGreat
open Go.RowKit
theorem box_new{S:Nat→Prop}{w w':World}{cs:Array Value}{t:TypeId}(h:Keeps S (w.alloc (.cells cs t)) w')(hS:¬S w.heap.size):w'.heap[w.heap.size]?=some (.cells cs t (0,0)):=by
 rw [h.block _ (by simp) hS];exact heap_alloc_new w _
theorem Ad{S:Nat→Prop}{w w':World}{b:Nat}{o:Obj}(hb:w.heap[b]?=some o)(h:Keeps S w w')(hS:¬S b):w'.heap[b]?=some o:=by
 rw [h.block _ (lt_of_block hb) hS];exact hb
theorem Au{w:World}{b:Nat}{o:Obj}(hb:w.heap[b]?=some o)(o':Obj):(w.alloc o').heap[b]?=some o:=(Below.heap_alloc _ _ _ (lt_of_block hb)).trans hb
theorem Reads.below{w w':World}{size:Nat}{x:Value}{m:Nat}{news:List Value}(h:Reads w size x m news)(hb:Below w.heap.size w w'):Reads w' size x m news:=by
 obtain⟨ad,c,rfl,h1,h2,h3,h4⟩:=h
 refine⟨ad,c,rfl,h1,h2,h3,fun j u hj=> ?_⟩
 obtain⟨g,o,rfl,ha⟩:=h4 j u hj
 exact⟨g,o,rfl,by rw [hb.cell (Ag ha)];exact ha⟩
theorem Reads.int{w:World}{k:IntKind}{ad:Option Addr}{n c:Nat}{L:List Int}(h:Reads w 1 (.slice ad n c) n (L.flatMap fun z=> [Value.int k z])){i:Nat}{x:Int}(hx:L[i]?=some x):
  ∃g o,ad=some ⟨g,o,none⟩∧w.cell? ⟨g,o+i,none⟩=some (.int k x):=by
 obtain⟨g,o,c',he,hc⟩:=Reads.elem (f:=fun z=> [Value.int k z]) (fun _=>rfl) h hx (by decide)
 exact jZ108
theorem Reads.bool{w:World}{ad:Option Addr}{n c:Nat}{L:List Bool}(h:Reads w 1 (.slice ad n c) n (L.flatMap fun z=> [Value.bool z])){i:Nat}{x:Bool}(hx:L[i]?=some x):
  ∃g o,ad=some ⟨g,o,none⟩∧w.cell? ⟨g,o+i,none⟩=some (.bool x):=by
 obtain⟨g,o,c',he,hc⟩:=Reads.elem (f:=fun z=> [Value.bool z]) (fun _=>rfl) h hx (by decide)
 exact jZ108
theorem Bt{P:Program}{ops:Array Oper}{o:Oper}{a:Act}{w:World}{K:Act→World→Prop}{Q:Exit→Act→World→Prop}{E:Prop}(hgd:o.guard=none)(s x:Operand)(t:TypeId)
  (ho:o.op= .call { callee:= .builtin .append,args:= #[s,x],argTypes:= #[t,t] })
  (base:Nat) (e:TypeId) (i:TypeInfo) (z:Value) (size bytes:Nat) (ht:P.underlying t=some (.slice e)) (hi:P.info? e=some i) (hz:i.zero=some z)
  (hsize:i.size=size) (hby:i.bytes=bytes) (hzs:z.cells.size=size) (hsz:0<size)
  (v:Value) (n:Nat) (xs:List Value) (hs:a.eval s=v) (hown:w.ownsRow base e size v n xs)
  (xv:Value) (m:Nat) (news:List Value) (hx:a.eval x=xv) (hxr:Reads w size xv m news) (h1:∀u∈news,u.oneCell'=true)
  (h63:n+m≤maxLen) (hbytes:(n+m)*bytes≤140737488355328) (hbase:base≤w.heap.size)
  (h:∀v' w',w'.ownsRow base e size v' (n+m) (xs++news)→Keeps (fun k=>v.ownBlock=some k) w w'→(v'.ownBlock=v.ownBlock∨∃g,v'.ownBlock=some g∧w.heap.size≤g)→K (a.put o.dst v') w'):
  if Region.wanted o (yielded ops a.tmps)=true then Oper.wp P o a w K Q else E:=by
 have hw:Region.wanted o (yielded ops a.tmps)=true:=by simp [Region.wanted,hgd]
 rw [if_pos hw]
 obtain⟨v',w',hr,h2,h3,h4,_⟩:=run_append_row (P:=P) w base t o.type e i z size bytes ht hi hz hsize hby hzs hsz v n xs hown xv m news hxr h1 h63 hbytes hbase
 unfold Oper.wp execOp
 simp only [ho,resolve,invoke,builtin,Sem.run_bind,Sem.run_pure,Result.andThen_ok,List.map_toArray,List.map_cons,List.map_nil,hs,hx,hr]
 exact h v' w' h2 h3 h4
theorem Reads.pre{w:World}{size n c:Nat}{ad:Option Addr}{xs:List Value}(h:Reads w size (.slice ad n c) n xs)(k:Nat)(hk:k≤n):Reads w size (.slice ad k c) k (xs.take (k*size)):=by
 obtain⟨ad',c',he,h1,h2,h3,h4⟩:=h
 simp only [Value.slice.injEq,true_and] at he
 obtain⟨rfl,rfl⟩:=he
 have hm:k*size≤n*size:=Nat.mul_le_mul_right _ hk
 refine⟨ad,c,rfl,by omega,by rw [List.length_take,h2];omega,h3,fun j u hj=>h4 j u ?_⟩
 rw [List.getElem?_take] at hj
 split at hj
 ·exact hj
 ·simp at hj
theorem Reads.suf{w:World}{size n c g o:Nat}{xs:List Value}(h:Reads w size (.slice (some ⟨g,o,none⟩) n c) n xs)(k:Nat)(hk:k≤n):Reads w size (.slice (some ⟨g,o+k*size,none⟩) (n-k) (c-k)) (n-k) (xs.drop (k*size)):=by
 obtain⟨ad',c',he,h1,h2,h3,h4⟩:=h
 simp only [Value.slice.injEq,true_and] at he
 obtain⟨rfl,rfl⟩:=he
 refine⟨_,_,rfl,by omega,by rw [List.length_drop,h2,Nat.sub_mul],by simp,fun j u hj=> ?_⟩
 rw [List.getElem?_drop] at hj
 obtain⟨g',o',he,hc⟩:=h4 _ u hj
 simp only [Option.some.injEq,Addr.mk.injEq,and_true] at he
 obtain⟨rfl,rfl⟩:=he
 exact⟨g,o+k*size,rfl,by rw [Nat.add_assoc];exact hc⟩
theorem Reads.drew{w:World}{size:Nat}{x:Value}{m:Nat}{news:List Value}(h:Reads w size x m news):Reads w.drew size x m news:=h.keeps (Keeps.drew (S:=fun _=>False) _) (by simp)
theorem Reads.alloc{w:World}{size:Nat}{x:Value}{m:Nat}{news:List Value}(h:Reads w size x m news)(o:Obj):Reads (w.alloc o) size x m news:=h.keeps (Keeps.alloc (S:=fun _=>False) _ _) (by simp)
theorem Reads.blk{w:World}{g:Nat}{cs:Array Value}{e:TypeId}{fz:Nat×Nat}{size n:Nat}(hb:w.heap[g]?=some (.cells cs e fz))(hs:cs.size=n*size):Reads w size (.slice (some ⟨g,0,none⟩) n n) n cs.toList:=
 ⟨some ⟨g,0,none⟩,n,rfl,Nat.le_refl _,by simpa using hs,by simp,fun j u hj=>⟨g,0,rfl,by
  rw [Aa hb,Nat.zero_add]
  simpa using hj⟩⟩
theorem Av{α:Type}{L:List α}{k:Nat}(h:k<L.length):∃x,L[k]?=some x:=⟨L[k],List.getElem?_eq_getElem h⟩
theorem take_snoc'{α:Type}{L:List α}{k:Nat}{x:α}(h:L[k]?=some x):L.take (k+1)=L.take k++ [x]:=by rw [List.take_add_one,h];rfl
def Fresh(w0 w:World)(v:Value):Prop:=Keeps (fun _=>False) w0 w∧∀g,v.ownBlock=some g→w0.heap.size≤g
theorem Fresh.nil(w:World):Fresh w w (.slice none 0 0):=⟨Keeps.refl _ _,by simp [Value.ownBlock]⟩
theorem Fresh.keep{w0 w w':World}{v:Value}(h:Fresh w0 w v)(hk:Keeps (fun _=>False) w w'):Fresh w0 w' v:=⟨h.1.trans (hk.mono (by simp)),h.2⟩
theorem Fresh.app{w0 w w':World}{v v':Value}(h:Fresh w0 w v)(hk:Keeps (fun k=>v.ownBlock=some k) w w')(hf:v'.ownBlock=v.ownBlock∨∃g,v'.ownBlock=some g∧w.heap.size≤g):Fresh w0 w' v':=by
 have hs:=h.1.size
 refine⟨h.1.trans (hk.mono fun k _ hk'=> .inr (h.2 k hk')),fun g hg=> ?_⟩
 rcases hf with hf|⟨g',hg',hh⟩
 ·exact h.2 g (by rw [←hf];exact hg)
 ·rw [hg'] at hg;simp only [Option.some.injEq] at hg;omega
theorem Fresh.set{w0 w:World}{v:Value}{g j:Nat}(h:Fresh w0 w v)(hg:v.ownBlock=some g)(u:Value):Fresh w0 (w.setCell ⟨g,j,none⟩ u) v:=
 ⟨h.1.trans (Keeps.setCell _ _ _ (.inr (h.2 g hg))),h.2⟩
theorem Fresh.cell{w0 w:World}{v:Value}(h:Fresh w0 w v){p:Addr}(hp:p.block<w0.heap.size):w.cell? p=w0.cell? p:=h.1.cell hp (by simp)
end Go.Proofs.YthffbjldpfionaaGreat
namespace Go.Proofs.YthffbjldpfionaaGreat
open Go.RowKit
section
variable {α:Type} {f:α→List Value} {size:Nat} (hf:∀x,(f x).length=size)
include hf
theorem flat_takek(L:List α)(k:Nat):(L.flatMap f).take (k*size)=(L.take k).flatMap f:=by
 induction L generalizing k with
 |nil=>simp
 |cons a l ih=>
  cases k with
  |zero=>simp
  |succ k=>
   rw [List.flatMap_cons,List.take_succ_cons,List.flatMap_cons,←ih,Nat.succ_mul,Nat.add_comm,←hf a,List.take_length_add_append]
theorem flat_dropk(L:List α)(k:Nat):(L.flatMap f).drop (k*size)=(L.drop k).flatMap f:=by
 induction L generalizing k with
 |nil=>simp
 |cons a l ih=>
  cases k with
  |zero=>simp
  |succ k=>
   rw [List.flatMap_cons,List.drop_succ_cons,←ih,Nat.succ_mul,Nat.add_comm,←hf a,List.drop_length_add_append]
end
theorem wp_scope_jumps2{P:Program}{a:Act}{w:World}{Q:Exit→Act→World→Prop}{c rest:Code}(l:Nat)(J:Act→World→Prop)(M:Act→World→Nat)(hf:findLabel c l=some rest)
  (round:∀a w,J a w→rest.wp P (Exit.jump l (fun a' w'=>J a' w'∧M a' w'<M a w) Q) a w)
  (first:(∀a w,J a w→rest.wp P (Exit.jump l J Q) a w)→c.wp P (Exit.jump l J Q) a w):(Code.scope c).wp P Q a w:=by
 refine wp_scope_jumps l J M hf (first fun a w hJ=>Code.wp_mono ?_ (round a w hJ)) round
 intro e a' w' h
 cases e with
 |goto k=>exact⟨h.1,h.2.1⟩
 |_=>exact h
theorem Reads.litAt(w:World)(cs:Array Value)(e:TypeId)(size n B:Nat)(hB:B=w.heap.size)(hs:cs.size=n*size):Reads (w.alloc (.cells cs e)) size (.slice (some ⟨B,0,none⟩) n n) n cs.toList:=by subst hB;exact Reads.lit w cs e size n hs
def i64c(z:Int):List Value:= [.int .i64 z]
theorem Cc(z:Int):(i64c z).length=1:=rfl
theorem i64c_one(L:List Int):∀u∈L.flatMap i64c,u.oneCell'=true:=by
 intro u hu
 obtain⟨d,_,hd⟩:=List.mem_flatMap.1 hu
 simp only [i64c,List.mem_cons,List.not_mem_nil,or_false] at hd
 subst hd;rfl
theorem Reads.lt{w:World}{size:Nat}{x:Value}{m:Nat}{news:List Value}(h:Reads w size x m news)(hn:news≠ []):∃g,x.ownBlock=some g∧g<w.heap.size:=by
 obtain⟨ad,c,rfl,h1,h2,h3,h4⟩:=h
 rcases news with _|⟨u,news⟩
 ·exact absurd rfl hn
 ·obtain⟨g,o,rfl,hc⟩:=h4 0 u rfl
  exact⟨g,rfl,Ag hc⟩
end Go.Proofs.YthffbjldpfionaaGreat
namespace Go.Proofs.YthffbjldpfionaaGreat
open Go.RowKit
structure Ln where
 balance:Int
 interest:Int
 rate:Int
deriving DecidableEq,Inhabited
def Ln.cells(d:Ln):List Value:= [.int .i64 d.balance,.int .i64 d.interest,.int .i64 d.rate]
theorem Ln.Am(d:Ln):d.cells.length=3:=rfl
theorem Ln.one(L:List Ln):∀u∈L.flatMap Ln.cells,u.oneCell'=true:=by
 intro u hu
 obtain⟨d,_,hd⟩:=List.mem_flatMap.1 hu
 simp only [Ln.cells,List.mem_cons,List.not_mem_nil,or_false] at hd
 rcases hd with rfl|rfl|rfl<;>rfl
structure Stm where
 cycle:Int
 fr:Int
 te:Int
 due:Int
 total:Int
 credit:Int
 min:Int
 grace:Bool
 lines:List Ln
def Stm.val(s:Stm)(v:Value):Value:= .agg #[.int .i64 s.cycle,.int .i64 s.fr,.int .i64 s.te,.int .i64 s.due,v,.int .i64 s.total,.int .i64 s.credit,.int .i64 s.min,.bool s.grace]
theorem info_tLine:(Tryz.prog.info? 102).map (fun i=>(i.zero,i.size,i.bytes))=some (some (.agg #[.int .i64 0,.int .i64 0,.int .i64 0]),3,24):=by kernel_rfl
theorem info_tStm:(Tryz.prog.info? 42).map (fun i=>(i.zero,i.size,i.bytes))=some (some (.agg #[.int .i64 0,.int .i64 0,.int .i64 0,.int .i64 0,.slice none 0 0,.int .i64 0,.int .i64 0,.int .i64 0,.bool false]),9,88):=by kernel_rfl
structure SV where
 s:Stm
 ad:Option Addr
 cap:Nat
def SV.v(x:SV):Value:= .slice x.ad x.s.lines.length x.cap
def SV.cells(x:SV):List Value:= [.int .i64 x.s.cycle,.int .i64 x.s.fr,.int .i64 x.s.te,.int .i64 x.s.due,x.v,.int .i64 x.s.total,.int .i64 x.s.credit,.int .i64 x.s.min,.bool x.s.grace]
theorem SV.Am(x:SV):x.cells.length=9:=rfl
def mayB(most:Int)(L:List Int):Bool:=L.all fun v=>decide (0≤v∧v≤most)
def dayB(n:Int):Bool:=decide (-135140≤n∧n≤2932896)
def Ln.okB(x:Ln):Bool:=mayB 1000000000000000 [x.balance,x.interest]&&mayB 10000000 [x.rate]
def sumLn(L:List Ln):Int:=(L.map Ln.balance).sum
def Stm.rightB(s:Stm):Bool:=
 decide (1≤s.cycle∧s.cycle≤300)&&(dayB s.fr&&dayB s.te&&dayB s.due)&&decide (s.fr≤s.te)&&decide (s.te≤s.due)&&decide (1≤s.lines.length∧s.lines.length≤8)&&
  mayB 1000000000000000 [s.total,s.credit,s.min]&&decide (s.min≤s.total)&&s.lines.all Ln.okB&&decide (sumLn s.lines=s.total)
def Stm.head(s:Stm):List Int:= [s.cycle,s.fr,s.te,s.due,s.total,s.credit,s.min,if s.grace then 1 else 0,s.lines.length]
def Ln.nums(x:Ln):List Int:= [x.balance,x.interest,x.rate]
def Stm.nums(s:Stm):List Int:=s.head++s.lines.flatMap Ln.nums
theorem lit3{w:World}{B:Nat}(hB:B=w.heap.size)(t:TypeId)(a b c:Int):Reads (w.alloc (.cells #[.int .i64 a,.int .i64 b,.int .i64 c] t)) 1 (.slice (some ⟨B,0,none⟩) 3 3) 3 ([a,b,c].flatMap i64c):=Reads.litAt _ #[.int .i64 a,.int .i64 b,.int .i64 c] _ _ _ _ hB rfl
theorem lit2{w:World}{B:Nat}(hB:B=w.heap.size)(t:TypeId)(a b:Int):Reads (w.alloc (.cells #[.int .i64 a,.int .i64 b] t)) 1 (.slice (some ⟨B,0,none⟩) 2 2) 2 ([a,b].flatMap i64c):=Reads.litAt _ #[.int .i64 a,.int .i64 b] _ _ _ _ hB rfl
def moneyB(v:Int):Bool:=decide (0≤v∧v≤1000000000000000)
set_option maxRecDepth 100000
set_option maxHeartbeats 400000
theorem adjMayF_any(v:Int)(w:World):Calls Tryz.prog 155 #[.int .i64 v] w fun e w'=>e= .returned (.bool (!moneyB v))∧w=w':=by
 have hd:moneyB v=decide (0≤v∧v≤1000000000000000):=rfl
 by_cases h1:v<0
 ·have:moneyB v=false:=by rw [hd];simp;omega
  exact jZ54
 ·by_cases h2:1000000000000000<v
  ·have:moneyB v=false:=by rw [hd];simp;omega
   exact jZ54
  ·have:moneyB v=true:=by rw [hd];simp;omega
   exact jZ54
def Bz(L:List Int):Bool:=L.all moneyB
theorem allMoney_snoc(L:List Int)(x:Int):Bz (L++ [x])=(Bz L&&moneyB x):=by simp [Bz]
theorem allMoney_false{L:List Int}{k:Nat}{x:Int}(h:L[k]?=some x)(hx:moneyB x=false):Bz L=false:=by
 exact jZ101
set_option maxHeartbeats 800000
theorem indexI64_any(ad:Option Addr)(cap:Nat)(L:List Int)(w:World)(hr:Reads w 1 (.slice ad L.length cap) L.length (L.flatMap i64c))(hl:L.length≤1000):
  Calls Tryz.prog 157 #[.slice ad L.length cap,.func (.func 155) #[] #[]] w fun e w'=>∃r:Int,e= .returned (.int .i64 r)∧decide (0≤r)= !Bz L∧w=w':=by
 have Hr:=Lib.hid hr;clear hr
 go_enter Tryz.func157,Tryz.ntmps157
 go_wp2_with fail
 go_loop [8] (fun c=>∃j:Nat,j≤L.length∧c= .int .i64 (j:Nat)∧Bz (L.take j)=true) (fun c=>L.length-(intOf c).toNat)
 case atStart=>exact⟨0,Nat.zero_le _,rfl,rfl⟩
 case round=>
  obtain⟨j,hj,rfl,hok⟩:=hrel
  by_cases hjl:j<L.length
  ·obtain⟨x,hx⟩:=Av hjl
   obtain⟨g,o,rfl,x0⟩:=Hr.out.int hx
   have hsn:=allMoney_snoc (L.take j) x
   rw [←take_snoc' hx,hok] at hsn
   rcases m1:moneyB x with _|_
   ·have hf:=allMoney_false hx m1
    have hj0:decide ((0:Int)≤(j:Int))=true:=by simp
    obtain⟨Hf,Hsn,Hx,Hj0⟩:=hid4 hf hsn hx hj0;clear hj0 hx hsn hf
    go_wp2_with (go_at_call 155;((with_reducible refine(adjMayF_any _ _).mono ?_);rintro e w1 ⟨rfl,rfl⟩))
    go_ret
    exact⟨_,rfl,by rw [Hf.out,Hj0.out];rfl,rfl⟩
   ·have hok':Bz (L.take (j+1))=true:=by rw [hsn,m1];rfl
    obtain⟨Hsn,Hx,Hok,Hok'⟩:=hid4 hsn hx hok hok';clear hok' hok hx hsn
    go_wp2_with (go_at_call 155;((with_reducible refine(adjMayF_any _ _).mono ?_);rintro e w1 ⟨rfl,rfl⟩))
    exact jZ43
  ·exact jZ29
set_option maxHeartbeats 400000
theorem containsI64_any(ad:Option Addr)(cap:Nat)(L:List Int)(w:World)(hr:Reads w 1 (.slice ad L.length cap) L.length (L.flatMap i64c))(hl:L.length≤1000):
  Calls Tryz.prog 140 #[.slice ad L.length cap,.func (.func 155) #[] #[]] w fun e w'=>e= .returned (.bool (!Bz L))∧w=w':=by
 have Hr:=Lib.hid hr;clear hr
 go_enter Tryz.func140,Tryz.ntmps140
 go_wp2_with (go_at_call 157;refine(indexI64_any _ _ L _ Hr.out hl).mono ?_;rintro e w1 ⟨r,rfl,hd,rfl⟩;have Hd:=Lib.hid hd;clear hd)
 exact jZ88
theorem adjMay_any(ad:Option Addr)(cap:Nat)(L:List Int)(w:World)(hr:Reads w 1 (.slice ad L.length cap) L.length (L.flatMap i64c))(hl:L.length≤1000):
  Calls Tryz.prog 136 #[.slice ad L.length cap] w fun e w'=>e= .returned (.bool (Bz L))∧w=w':=by
 have Hr:=Lib.hid hr;clear hr
 go_enter Tryz.func136,Tryz.ntmps136
 go_wp2_with (go_at_call 140;refine(containsI64_any _ _ L _ Hr.out hl).mono ?_;rintro e w1 ⟨rfl,rfl⟩)
 go_ret
 exact⟨by simp,rfl⟩
theorem adjMay3{w:World}{B:Nat}(hB:B=w.heap.size)(t:TypeId)(a b c:Int):Calls Tryz.prog 136 #[.slice (some ⟨B,0,none⟩) 3 3] (w.alloc (.cells #[.int .i64 a,.int .i64 b,.int .i64 c] t)) fun e w'=>e= .returned (.bool (Bz [a,b,c]))∧(w.alloc (.cells #[.int .i64 a,.int .i64 b,.int .i64 c] t))=w':=
 adjMay_any _ _ [a,b,c] _ (lit3 hB _ a b c) (by simp)
theorem adjMay2{w:World}{B:Nat}(hB:B=w.heap.size)(t:TypeId)(a b:Int):Calls Tryz.prog 136 #[.slice (some ⟨B,0,none⟩) 2 2] (w.alloc (.cells #[.int .i64 a,.int .i64 b] t)) fun e w'=>e= .returned (.bool (Bz [a,b]))∧(w.alloc (.cells #[.int .i64 a,.int .i64 b] t))=w':=
 adjMay_any _ _ [a,b] _ (lit2 hB _ a b) (by simp)
def turnedI(a b:Bool):Int:=if b&& !a then 1 else if a&& !b then -1 else 0
theorem adjTurned_any(a b:Bool)(w:World):Calls Tryz.prog 137 #[.bool a,.bool b] w fun e w'=>e= .returned (.int .i64 (turnedI a b))∧w=w':=by
 cases a<;>cases b<;>
 ·go_enter Tryz.func137,Tryz.ntmps137
  go_wp2
  go_ret
  exact⟨rfl,rfl⟩
def alikeB(a b:Stm):Bool:=decide (a.cycle=b.cycle)&&(decide (a.fr=b.fr)&&decide (a.te=b.te))&&decide (a.lines.length=b.lines.length)
set_option maxHeartbeats 800000
theorem adjAlike_any(a b:Stm)(ad1 ad2:Option Addr)(c1 c2:Nat)(w:World):
  Calls Tryz.prog 115 #[a.val (.slice ad1 a.lines.length c1),b.val (.slice ad2 b.lines.length c2)] w fun e w'=>e= .returned (.bool (alikeB a b))∧Keeps (fun _=>False) w w':=by
 obtain⟨cy,fr,tQ,du,tot,cr,mi,gr,L⟩:=a
 obtain⟨cy',fr',to',du',tot',cr',mi',gr',L'⟩:=b
 simp only [Stm.val]
 obtain⟨n,hn⟩:∃n,L.length=n:=⟨_,rfl⟩
 obtain⟨n',hn'⟩:∃n',L'.length=n':=⟨_,rfl⟩
 have hd:alikeB ⟨cy,fr,tQ,du,tot,cr,mi,gr,L⟩ ⟨cy',fr',to',du',tot',cr',mi',gr',L'⟩=(decide (cy=cy')&&(decide (fr=fr')&&decide (tQ=to'))&&decide (n=n')):=by unfold alikeB;simp only [hn,hn']
 rw [hn,hn']
 by_cases h1:cy=cy'
 ·subst h1
  by_cases h2:fr=fr'∧tQ=to'
  ·obtain⟨rfl,rfl⟩:=h2
   by_cases h3:n=n'
   ·subst h3
    have hf:alikeB ⟨cy,fr,tQ,du,tot,cr,mi,gr,L⟩ ⟨cy,fr,tQ,du',tot',cr',mi',gr',L'⟩=true:=by rw [hd];simp
    obtain⟨Hd,Hn,Hn',Hf⟩:=hid4 hd hn hn' hf;clear hf hn' hn hd
    exact jZ44
   ·have hf:alikeB ⟨cy,fr,tQ,du,tot,cr,mi,gr,L⟩ ⟨cy,fr,tQ,du',tot',cr',mi',gr',L'⟩=false:=by rw [hd];simp [h3]
    have h3':¬(n:Int)=(n':Int):=by omega
    obtain⟨Hd,Hn,Hn',Hf⟩:=hid4 hd hn hn' hf;clear hf hn' hn hd
    go_enter Tryz.func115,Tryz.ntmps115
    go_wp2
    go_ret
    exact⟨by rw [Hf.out];simp [h3'];try omega,(Keeps.alloc _ _).trans (Keeps.alloc _ _)⟩
  ·have hf:alikeB ⟨cy,fr,tQ,du,tot,cr,mi,gr,L⟩ ⟨cy,fr',to',du',tot',cr',mi',gr',L'⟩=false:=by rw [hd];simp;intro a b;exact absurd ⟨a,b⟩ h2
   have h2':(decide (fr=fr')&&decide (tQ=to'))=false:=by simp;intro a b;exact absurd ⟨a,b⟩ h2
   obtain⟨Hd,Hn,Hn',Hf⟩:=hid4 hd hn hn' hf;clear hf hn' hn hd
   rcases(show¬fr=fr'∨(fr=fr'∧¬tQ=to') by omega) with h4|⟨h4,h5⟩
   ·clear h2 h2'
    exact jZ44
   ·clear h2 h2'
    subst h4
    exact jZ44
 ·have hf:alikeB ⟨cy,fr,tQ,du,tot,cr,mi,gr,L⟩ ⟨cy',fr',to',du',tot',cr',mi',gr',L'⟩=false:=by rw [hd];simp [h1]
  obtain⟨Hd,Hn,Hn',Hf⟩:=hid4 hd hn hn' hf;clear hf hn' hn hd
  exact jZ44
def Ln.numsB(x:Ln):Bool:=Bz [x.balance,x.interest]
def Stm.Cf(s:Stm):Bool:=s.lines.all Ln.numsB&&Bz [s.total,s.credit,s.min]
theorem numsB_false{L:List Ln}{k:Nat}{x:Ln}(h:L[k]?=some x)(hx:x.numsB=false):L.all Ln.numsB=false:=by
 exact jZ101
set_option maxHeartbeats 1600000
theorem adjNumbers_any(s:Stm)(ad:Option Addr)(cap:Nat)(w:World)(hr:Reads w 3 (.slice ad s.lines.length cap) s.lines.length (s.lines.flatMap Ln.cells))(hl:s.lines.length≤1000000):
  Calls Tryz.prog 116 #[s.val (.slice ad s.lines.length cap)] w fun e w'=>e= .returned (.bool s.Cf)∧Keeps (fun _=>False) w w':=by
 obtain⟨cy,fr,tQ,du,tot,cr,mi,gr,L⟩:=s
 simp only [Stm.val] at hr hl⊢
 have hd:Stm.Cf ⟨cy,fr,tQ,du,tot,cr,mi,gr,L⟩=(L.all Ln.numsB&&Bz [tot,cr,mi]):=rfl
 rw [hd]
 clear hd
 have hbox:=heap_alloc_new w (.cells #[.int .i64 cy,.int .i64 fr,.int .i64 tQ,.int .i64 du,.slice ad L.length cap,.int .i64 tot,.int .i64 cr,.int .i64 mi,.bool gr] 42)
 obtain⟨Hr,Hbox⟩:=hid2 hr hbox;clear hbox hr
 go_enter Tryz.func116,Tryz.ntmps116
 go_wp2_with fail
 go_loopw [8] (fun c wr=>∃j:Nat,j≤L.length∧c= .int .i64 (j:Nat)∧(L.take j).all Ln.numsB=true∧Keeps (fun _=>False) w wr∧wr.heap[w.heap.size]?=some (.cells #[.int .i64 cy,.int .i64 fr,.int .i64 tQ,.int .i64 du,.slice ad L.length cap,.int .i64 tot,.int .i64 cr,.int .i64 mi,.bool gr] 42 (0,0))) (fun c _=>L.length-(intOf c).toNat)
 case atStart=>exact⟨0,Nat.zero_le _,rfl,rfl,Keeps.alloc _ _,Hbox.out⟩
 case round=>
  obtain⟨j,hj,rfl,hok,hk,hb⟩:=hrel
  have b5:=Aa hb 5
  have b6:=Aa hb 6
  have b7:=Aa hb 7
  have hbl:=lt_of_block hb
  by_cases hjl:j<L.length
  ·obtain⟨⟨xb,xi,xr⟩,hx⟩:=Av hjl
   obtain⟨g,o,c,he,hc⟩:=(Hr.out.keeps hk (by simp)).elem Ln.Am hx (by decide)
   simp only [Value.slice.injEq,true_and] at he
   obtain⟨rfl,rfl⟩:=he
   have x0:wr.cell? ⟨g,o+j*3,none⟩=some (.int .i64 xb):=hc 0 (by decide)
   have x1:wr.cell? ⟨g,o+j*3+1,none⟩=some (.int .i64 xi):=hc 1 (by decide)
   have x2:wr.cell? ⟨g,o+j*3+2,none⟩=some (.int .i64 xr):=hc 2 (by decide)
   have han:(L.take (j+1)).all Ln.numsB=Bz [xb,xi]:=by rw [take_snoc' hx,List.all_append,hok];simp [Ln.numsB]
   have hno:Bz [xb,xi]=false→(L.all Ln.numsB&&Bz [tot,cr,mi])=false:=fun h=>by rw [numsB_false hx (by simpa [Ln.numsB] using h)];rfl
   clear hc
   rcases m1:Bz [xb,xi] with _|_
   ·have hf:=hno m1
    obtain⟨Hx,Han,Hno,Hk,Hb,Hok,Hf⟩:=hid7 hx han hno hk hb hok hf;clear hf hok hb hk hno han hx
    go_wp2_with (go_at_call 136;((with_reducible refine(adjMay2 (by simp) _ xb xi).mono ?_);rintro e w1 ⟨rfl,rfl⟩))
    go_ret
    exact⟨by rw [Hf.out];rfl,Hk.out.trans ((Keeps.alloc _ _).trans (Keeps.alloc _ _))⟩
   ·have hok':(L.take (j+1)).all Ln.numsB=true:=by rw [han,m1]
    obtain⟨Hx,Han,Hno,Hk,Hb,Hok,Hok'⟩:=hid7 hx han hno hk hb hok hok';clear hok' hok hb hk hno han hx
    go_wp2_with (go_at_call 136;((with_reducible refine(adjMay2 (by simp) _ xb xi).mono ?_);rintro e w1 ⟨rfl,rfl⟩))
    go_roundw
    case rel=>exact⟨j+1,by omega,by go_num,Hok'.out,Hk.out.trans ((Keeps.alloc _ _).trans (Keeps.alloc _ _)),Au (Au Hb.out _) _⟩
    case measure=>simp [intOf];omega
  ·obtain rfl:j=L.length:=by omega
   rw [List.take_length] at hok
   have hfin:(L.all Ln.numsB&&Bz [tot,cr,mi])=Bz [tot,cr,mi]:=by rw [hok];rfl
   obtain⟨Hk,Hb,Hok,Hfin⟩:=hid4 hk hb hok hfin;clear hfin hok hb hk
   go_wp2_with (go_at_call 136;((with_reducible refine(adjMay3 rfl _ tot cr mi).mono ?_);rintro e w1 ⟨rfl,rfl⟩))
   go_ret
   exact⟨by rw [Hfin.out];rfl,Hk.out.trans (Keeps.alloc _ _)⟩
theorem run_copy_rowk{P:Program}(w:World)(dT sT ty elem:TypeId)(size g o dLen dCap:Nat)(a:Addr)(sLen sCap:Nat)(cur:Array Value)(t:TypeId)(cs:List Value)
  (hu:P.underlying dT=some (.slice elem)) (hs:(P.info? elem).map (·.size)=some size)
  (hg:w.heap[g]?=some (.cells cur t (0,0))) (hn:cs.length=Nat.min sLen dLen*size)
  (hsrc:∀j v,cs[j]?=some v→w.cell? (a.add j)=some v) (hfit:o+cs.length≤cur.size) (h1:∀v∈cs,v.oneCell'=true):
  (Builtin.copy_ #[dT,sT] ty #[.slice (some ⟨g,o,none⟩) dLen dCap,.slice (some a) sLen sCap]).run P w=
   .ok (goInt (Nat.min sLen dLen)) (w.setRow g (cur.toList.take o++cs++cur.toList.drop (o+cs.length)).toArray):=by
 have hl:=run_loadCells_list (P:=P) w a cs hsrc
 have hst:=run_storeCells_at P g o t cs 0 cur w hg (by simpa using hfit) h1
 cases hq:P.info? elem with
 |none=>simp [hq] at hs
 |some i=>
  have hi:i.size=size:=by simpa [hq] using hs
  simp [Builtin.copy_,run_underlying hu,Builtin.lenOf,Builtin.firstCells,sizeOf,typeInfo,hq,hi,←hn,hl,hst]
theorem run_append_grow_zeros {P:Program}(w:World)(t tn ty e:TypeId)(i:TypeInfo)(z:Value)(kn:IntKind)(ht:P.underlying t=some (.slice e))(htn:P.underlying tn=some (.int kn))(hi:P.info? e=some i)(hz:i.zero=some z)
  (b:Addr) (sLen sCap:Nat) (olds:List Value) (hlo:olds.length=sLen*i.size) (holds:∀j v,olds[j]?=some v→w.cell? (b.add j)=some v)
  (n:Nat) (h0:0<n) (hs:0<i.size) (hg:sCap<sLen+n) (h63:((sLen+n:Nat):Int)≤9223372036854775807) (h48:n*i.bytes≤281474976710656) (hfit:Builtin.nextslicecap (sLen+n) sCap*i.bytes≤281474976710656):
  (Builtin.append_ #[t,tn] ty #[.slice (some b) sLen sCap,.int kn n]).run P w=
   .ok (.slice (some ⟨w.heap.size,0,none⟩) (sLen+n) (grownCap w (sLen+n) sCap e))
    (w.drew.alloc (.cells (olds.toArray++Builtin.zeroCells z.cells n++Builtin.zeroCells z.cells (grownCap w (sLen+n) sCap e-(sLen+n))) e)):=by
 have hn:n≠0:=by omega
 have hn':¬(sLen+n≤sCap):=by omega
 have hw:IntKind.i64.wrap (n:Int)=n:=by rw [IntKind.wrap_i64];omega
 have h63':¬(9223372036854775807<((sLen:Int)+(n:Int))):=by omega
 have h48':¬(281474976710656<Builtin.nextslicecap (sLen+n) sCap*i.bytes):=by omega
 have h48i:¬(281474976710656<(n:Int)*(i.bytes:Int)):=by
  rw [←Int.natCast_mul]
  omega
 have hneg:¬((n:Int)<0):=by omega
 have hns:¬(n*i.size=0):=Nat.mul_ne_zero hn (by omega)
 have hfo:=run_firstCells_some (P:=P) w.drew i.size sLen b sLen sCap olds hlo (by simpa using holds)
 simp [Builtin.append_,run_underlying ht,run_underlying htn,sizeOf,typeInfo,zeroValue,hi,hz,asInt,asIntOf,hw,hn',hneg,hns,h63',h48',h48i,Question.forced,hfo,newRow,grownCap]
theorem ins_room{X1 X2 Z N:List Value}{a b s:Nat}(h1:X1.length=a)(h2:X2.length=b)(hN:N.length=s)(hz:s≤Z.length)(cur c1:List Value)(hcur:cur=X1++(X2++Z))(hc1:c1=cur.take (a+s)++X2++cur.drop (a+s+X2.length)):
  (c1.take a++N++c1.drop (a+N.length)).take (a+s+b)=X1++N++X2:=by
 have e1:cur.take (a+s)=X1++(X2++Z).take s:=by rw [hcur,List.take_append,h1];simp [List.take_of_length_le (show X1.length≤a+s by omega)]
 have l1:((X2++Z).take s).length=s:=by simp;omega
 have e2:c1.take a=X1:=by
  rw [hc1,e1,List.append_assoc,List.append_assoc,List.take_append,h1];simp [List.take_of_length_le (show X1.length≤a by omega)]
 have e3:c1.drop (a+s)=X2++cur.drop (a+s+X2.length):=by
  rw [hc1,e1,List.append_assoc,List.drop_append]
  simp only [List.length_append,h1,l1]
  rw [List.drop_eq_nil_of_le (by simp [h1,l1])]
  simp
 rw [hN,e2,e3,List.append_assoc,List.append_assoc,←List.append_assoc X1,List.take_append]
 rw [List.take_of_length_le (by simp;omega)]
 simp only [List.length_append,h1,hN]
 rw [show a+s+b-(a+s)=b by omega,List.take_append,h2]
 simp [List.take_of_length_le (show X2.length≤b by omega)]
theorem ins_grow{X1 X2 Z N:List Value}{a b s:Nat}(h1:X1.length=a)(h2:X2.length=b)(hN:N.length=s)(_:s+b≤Z.length)(cur c1:List Value)(hcur:cur=X1++Z)(hc1:c1=cur.take a++N++cur.drop (a+N.length)):
  (c1.take (a+s)++X2++c1.drop (a+s+X2.length)).take (a+s+b)=X1++N++X2:=by
 have e1:cur.take a=X1:=by rw [hcur,List.take_append,h1];simp [List.take_of_length_le (show X1.length≤a by omega)]
 have e2:c1.take (a+s)=X1++N:=by
  rw [hc1,e1,List.take_append]
  simp only [List.length_append,h1,hN]
  rw [List.take_of_length_le (by simp;omega)]
  simp
 rw [e2,List.take_append]
 simp only [List.length_append,h1,hN,h2]
 rw [List.take_of_length_le (by simp;omega),show a+s+b-(a+s+b)=0 by omega]
 simp
def laid(cur:List Value)(o:Nat)(cs:List Value):List Value:=cur.take o++cs++cur.drop (o+cs.length)
theorem Dk(cur:List Value)(o:Nat)(cs:List Value)(h:o+cs.length≤cur.length):(laid cur o cs).length=cur.length:=by simp [laid];omega
theorem wpList_copy_rowk{P:Program}{w:World}{ops:Array Oper}{rest:List Oper}{o:Oper}{a:Act}{Q:Exit→Act→World→Prop}(hgd:o.guard=none)(d s:Operand)(dT sT:TypeId)
  (ho:o.op= .call { callee:= .builtin .copy,args:= #[d,s],argTypes:= #[dT,sT] }) (elem:TypeId) (size:Nat) (hu:P.underlying dT=some (.slice elem)) (hsz:(P.info? elem).map (·.size)=some size)
  (g off dLen dCap:Nat) (ad:Addr) (sLen sCap:Nat) (hd:a.eval d= .slice (some ⟨g,off,none⟩) dLen dCap) (hs:a.eval s= .slice (some ad) sLen sCap)
  (cur:List Value) (t:TypeId) (hg:w.heap[g]?=some (.cells cur.toArray t (0,0))) (cs:List Value) (m:Nat) (hm:Nat.min sLen dLen=m) (hn:cs.length=m*size)
  (hsrc:∀j v,cs[j]?=some v→w.cell? (ad.add j)=some v) (hfit:off+cs.length≤cur.length) (h1:∀v∈cs,v.oneCell'=true)
  (h:∀w',w'.heap[g]?=some (.cells (laid cur off cs).toArray t (0,0))→Keeps (fun k=>k=g) w w'→wpList P ops Q rest (a.put o.dst (.int .i64 (m:Int))) w'):wpList P ops Q (o::rest) a w:=by
 subst hm
 refine wpList_plain hgd fun K hK=> ?_
 have hrun:=run_copy_rowk (P:=P) w dT sT o.type elem size g off dLen dCap ad sLen sCap cur.toArray t cs hu hsz hg hn hsrc (by simpa using hfit) h1
 unfold Oper.wp execOp
 simp only [ho,resolve,invoke,builtin,Sem.run_bind,Sem.run_pure,Result.andThen_ok,List.map_toArray,List.map_cons,List.map_nil,hd,hs,hrun]
 exact hK _ _ (h _ (setRow_heap w g _ _ t _ hg) ⟨rfl,rfl,rfl,by simp,fun k _ hk=>setRow_other w g k _ hk⟩)
theorem step_copy_rowk{P:Program}{ops:Array Oper}{o:Oper}{a:Act}{w:World}{K:Act→World→Prop}{Q:Exit→Act→World→Prop}{E:Prop}(hgd:o.guard=none)(d s:Operand)(dT sT:TypeId)
  (ho:o.op= .call { callee:= .builtin .copy,args:= #[d,s],argTypes:= #[dT,sT] }) (elem:TypeId) (size:Nat) (hu:P.underlying dT=some (.slice elem)) (hsz:(P.info? elem).map (·.size)=some size)
  (g off dLen dCap:Nat) (ad:Addr) (sLen sCap:Nat) (hd:a.eval d= .slice (some ⟨g,off,none⟩) dLen dCap) (hs:a.eval s= .slice (some ad) sLen sCap)
  (cur:List Value) (t:TypeId) (hg:w.heap[g]?=some (.cells cur.toArray t (0,0))) (cs:List Value) (m:Nat) (hm:Nat.min sLen dLen=m) (hn:cs.length=m*size)
  (hsrc:∀j v,cs[j]?=some v→w.cell? (ad.add j)=some v) (hfit:off+cs.length≤cur.length) (h1:∀v∈cs,v.oneCell'=true)
  (h:∀w',w'.heap[g]?=some (.cells (laid cur off cs).toArray t (0,0))→Keeps (fun k=>k=g) w w'→K (a.put o.dst (.int .i64 (m:Int))) w'):
  if Region.wanted o (yielded ops a.tmps)=true then Oper.wp P o a w K Q else E:=by
 have hw:Region.wanted o (yielded ops a.tmps)=true:=by simp [Region.wanted,hgd]
 rw [if_pos hw]
 subst hm
 have hrun:=run_copy_rowk (P:=P) w dT sT o.type elem size g off dLen dCap ad sLen sCap cur.toArray t cs hu hsz hg hn hsrc (by simpa using hfit) h1
 unfold Oper.wp execOp
 simp only [ho,resolve,invoke,builtin,Sem.run_bind,Sem.run_pure,Result.andThen_ok,List.map_toArray,List.map_cons,List.map_nil,hd,hs,hrun]
 exact h _ (setRow_heap w g _ _ t _ hg) ⟨rfl,rfl,rfl,by simp,fun k _ hk=>setRow_other w g k _ hk⟩
theorem ins_post{w w1:World}{o:Obj}{e:TypeId}{size:Nat}{v v':Value}{n:Nat}{zs:List Value}(h1:w1.ownsRow 0 e size v' n zs)(h2:Keeps (fun k=>v.ownBlock=some k) (w.alloc o) w1)(h3:v'.ownBlock=v.ownBlock∨∃g,v'.ownBlock=some g∧w.heap.size+1≤g):
  w1.ownsRow 0 e size v' n zs∧Keeps (fun k=>v.ownBlock=some k) w w1∧(v'.ownBlock=v.ownBlock∨∃g,v'.ownBlock=some g∧w.heap.size≤g):=
 ⟨h1,(Keeps.alloc w o).trans (h2.mono fun _ _ h=> .inl h),h3.imp id fun⟨g,hg,hh⟩=>⟨g,hg,by omega⟩⟩
theorem wpList_append_growz{P:Program}{w:World}{ops:Array Oper}{rest:List Oper}{o:Oper}{a:Act}{Q:Exit→Act→World→Prop}(hgd:o.guard=none)(s x:Operand)(t tn:TypeId)
  (ho:o.op= .call { callee:= .builtin .append,args:= #[s,x],argTypes:= #[t,tn] }) (e:TypeId) (i:TypeInfo) (z:Value) (size bytes:Nat) (kn:IntKind) (ht:P.underlying t=some (.slice e)) (htn:P.underlying tn=some (.int kn)) (hi:P.info? e=some i) (hz:i.zero=some z)
  (hsize:i.size=size) (hby:i.bytes=bytes) (hzs:z.cells.size=size) (hs0:0<size)
  (b:Addr) (sLen sCap:Nat) (olds:List Value) (n:Nat) (hs:a.eval s= .slice (some b) sLen sCap) (hx:a.eval x= .int kn n) (hlo:olds.length=sLen*size) (holds:∀j v,olds[j]?=some v→w.cell? (b.add j)=some v)
  (h0:0<n) (hg:sCap<sLen+n) (h63:sLen+n≤1000000000002) (hbb:bytes≤100)
  (h:∀G Z w',sLen+n≤G→G≤maxLen→Z.length=(G-sLen)*size→w'.heap[w.heap.size]?=some (.cells (olds++Z).toArray e (0,0))→Keeps (fun _=>False) w w'→wpList P ops Q rest (a.put o.dst (.slice (some ⟨w.heap.size,0,none⟩) (sLen+n) G)) w'):
  wpList P ops Q (o::rest) a w:=by
 subst hsize
 subst hby
 have hb1:(sLen+n)*i.bytes≤140737488355328:=Nat.le_trans (Nat.mul_le_mul h63 hbb) (by omega)
 have hb2:n*i.bytes≤281474976710656:=Nat.le_trans (Nat.mul_le_mul_right _ (Nat.le_add_left n sLen)) (by omega)
 have hr:=run_append_grow_zeros (P:=P) w t tn o.type e i z kn ht htn hi hz b sLen sCap olds hlo holds n h0 hs0 hg (by omega) hb2 (growslice_fits hg hb1)
 refine Lib.wpList_append_run w hgd s x t tn ho _ _ hs hx _ _ hr ?_
 have hge:=grownCap_ge w (sLen+n) sCap e
 have hcm:=grownCap_le_maxLen w (sLen+n) sCap e (by unfold maxLen;omega)
 refine h _ ((Builtin.zeroCells z.cells n++Builtin.zeroCells z.cells (grownCap w (sLen+n) sCap e-(sLen+n))).toList) _ hge hcm ?_ ?_ ((Keeps.drew w).trans (Keeps.alloc _ _))
 ·simp only [Array.toList_append,List.length_append,Array.length_toList,size_zeroCells,hzs,←Nat.add_mul]
  congr 1
  omega
 ·have:=heap_alloc_new w.drew (.cells (olds.toArray++Builtin.zeroCells z.cells n++Builtin.zeroCells z.cells (grownCap w (sLen+n) sCap e-(sLen+n))) e)
  rw [show w.drew.heap.size=w.heap.size from rfl] at this
  rw [this]
  congr 2
  apply Array.ext'
  simp
theorem Keeps.Bn{a b c:World}(h:Keeps (fun _=>False) a b)(k:Keeps (fun _=>False) b c):Keeps (fun _=>False) a c:=h.trans (k.mono (by simp))
set_option maxHeartbeats 400000
theorem cloneLine_any(w:World)(v:Value)(n:Nat)(xs:List Value)(hr:Reads w 3 v n xs)(h1:∀u∈xs,u.oneCell'=true)(hn:n≤1000000000000):
  Calls Tryz.prog 68 #[v] w fun e w'=>∃v',e= .returned v'∧w'.ownsRow 0 102 3 v' n xs∧Keeps (fun _=>False) w w'∧(∀k,v'.ownBlock=some k→w.heap.size≤k):=by
 obtain⟨i0,hi,hz0,hz1,hz2⟩:=info_parts info_tLine
 have hr':=hr
 obtain⟨ad,c,rfl,hnc,hl,hnone,hcells⟩:=hr'
 clear hcells
 have heq:=fun(wx:World) (ad:Option Addr) (l c:Nat)=>Lib.run_eql_slice_nil (P:=Tryz.prog) wx 40 _ ad l c 0 0 Tryz.underlying40
 rcases ad with _|a
 ·obtain rfl:=hnone rfl
  obtain rfl:n=0:=by omega
  obtain rfl:xs= []:=List.eq_nil_of_length_eq_zero (by simpa using hl)
  have hr0:=Lib.hid hr;clear hr
  go_enter Tryz.func68,Tryz.ntmps68
  exact jZ42
 ·have Hr:=Lib.hid hr;clear hr
  obtain⟨Hl,Hnone,H1⟩:=hid3 hl hnone h1;clear h1 hnone hl
  go_enter Tryz.func68,Tryz.ntmps68
  go_wp2_with (at_builtin;refine Ba rfl (.tmp 5) (.tmp 6) 40 rfl 0 102 i0 _ 3 24 Tryz.underlying40 hi hz0 hz1 hz2 rfl (by decide) _ 0 [] rfl (World.ownsRow_lit w #[] 0 (by omega) (by unfold maxLen;omega) rfl) _ n xs rfl (Hr.out.keeps (Keeps.alloc (S:=fun _=>False) _ _) (by simp)) H1.out (by unfold maxLen;omega) (by omega) (by omega) ?_)
  intro v' w1 hown1 hk1 hfr
  have hend:w1.ownsRow 0 102 3 v' n xs∧Keeps (fun _=>False) w w1∧(∀k,v'.ownBlock=some k→w.heap.size≤k):=by
   exact jZ16
  exact jZ57
def AlikeS(L M:List SV)(n:Nat):Prop:=∀i a b,i<n→L[i]?=some a→M[i]?=some b→alikeB a.s b.s=true
theorem adjAlike_at(a b:Stm)(ad1 ad2:Option Addr)(c1 c2:Nat)(w:World){r:Bool}(hr:alikeB a b=r):
  Calls Tryz.prog 115 #[.agg #[.int .i64 a.cycle,.int .i64 a.fr,.int .i64 a.te,.int .i64 a.due,.slice ad1 a.lines.length c1,.int .i64 a.total,.int .i64 a.credit,.int .i64 a.min,.bool a.grace],.agg #[.int .i64 b.cycle,.int .i64 b.fr,.int .i64 b.te,.int .i64 b.due,.slice ad2 b.lines.length c2,.int .i64 b.total,.int .i64 b.credit,.int .i64 b.min,.bool b.grace]] w fun e w'=>e= .returned (.bool r)∧Keeps (fun _=>False) w w':=by
 subst hr;exact adjAlike_any a b ad1 ad2 c1 c2 w
set_option maxHeartbeats 3200000
theorem equalStm_any(ad1 ad2:Option Addr)(c1 c2:Nat)(L M:List SV)(w:World)(h1:Reads w 9 (.slice ad1 L.length c1) L.length (L.flatMap SV.cells))(h2:Reads w 9 (.slice ad2 M.length c2) M.length (M.flatMap SV.cells))(hl:L.length≤1000000)(hm:M.length≤1000000):
  Calls Tryz.prog 114 #[.slice ad1 L.length c1,.slice ad2 M.length c2,.func (.func 115) #[] #[]] w fun e w'=>∃r:Bool,e= .returned (.bool r)∧(r=true↔L.length=M.length∧AlikeS L M L.length)∧Keeps (fun _=>False) w w':=by
 obtain⟨n,hn⟩:∃n,L.length=n:=⟨_,rfl⟩
 obtain⟨m,hm'⟩:∃m,M.length=m:=⟨_,rfl⟩
 rw [hn] at h1 hl⊢
 rw [hm'] at h2 hm⊢
 by_cases hnm:n=m
 ·subst hnm
  obtain⟨H1,H2,Hn,Hm'⟩:=hid4 h1 h2 hn hm';clear hm' hn h2 h1
  go_enter Tryz.func114,Tryz.ntmps114
  go_wp2_with fail
  go_loopw [17] (fun c wr=>∃j:Nat,j≤n∧c= .int .i64 (j:Nat)∧AlikeS L M j∧Keeps (fun _=>False) w wr) (fun c _=>n-(intOf c).toNat)
  case atStart=>exact⟨0,Nat.zero_le _,rfl,fun i a b h=>by omega,Keeps.refl _ _⟩
  case round=>
   obtain⟨j,hj,rfl,hal,hk⟩:=hrel
   by_cases hjn:j<n
   ·obtain⟨a,ha⟩:=Av (L:=L) (k:=j) (by rw [Hn.out];exact hjn)
    obtain⟨b,hb⟩:=Av (L:=M) (k:=j) (by rw [Hm'.out];exact hjn)
    obtain⟨g,o,c,he,hc⟩:=(H1.out.keeps hk (by simp)).elem SV.Am ha (by decide)
    obtain⟨g',o',c',he',hc'⟩:=(H2.out.keeps hk (by simp)).elem SV.Am hb (by decide)
    simp only [Value.slice.injEq,true_and] at he he'
    obtain⟨rfl,rfl⟩:=he
    obtain⟨rfl,rfl⟩:=he'
    have x0:wr.cell? ⟨g,o+j*9,none⟩=some (.int .i64 a.s.cycle):=hc 0 (by decide)
    have x1:wr.cell? ⟨g,o+j*9+1,none⟩=some (.int .i64 a.s.fr):=hc 1 (by decide)
    have x2:wr.cell? ⟨g,o+j*9+2,none⟩=some (.int .i64 a.s.te):=hc 2 (by decide)
    have x3:wr.cell? ⟨g,o+j*9+3,none⟩=some (.int .i64 a.s.due):=hc 3 (by decide)
    have x4:wr.cell? ⟨g,o+j*9+4,none⟩=some (.slice a.ad a.s.lines.length a.cap):=hc 4 (by decide)
    have x5:wr.cell? ⟨g,o+j*9+5,none⟩=some (.int .i64 a.s.total):=hc 5 (by decide)
    have x6:wr.cell? ⟨g,o+j*9+6,none⟩=some (.int .i64 a.s.credit):=hc 6 (by decide)
    have x7:wr.cell? ⟨g,o+j*9+7,none⟩=some (.int .i64 a.s.min):=hc 7 (by decide)
    have x8:wr.cell? ⟨g,o+j*9+8,none⟩=some (.bool a.s.grace):=hc 8 (by decide)
    have y0:wr.cell? ⟨g',o'+j*9,none⟩=some (.int .i64 b.s.cycle):=hc' 0 (by decide)
    have y1:wr.cell? ⟨g',o'+j*9+1,none⟩=some (.int .i64 b.s.fr):=hc' 1 (by decide)
    have y2:wr.cell? ⟨g',o'+j*9+2,none⟩=some (.int .i64 b.s.te):=hc' 2 (by decide)
    have y3:wr.cell? ⟨g',o'+j*9+3,none⟩=some (.int .i64 b.s.due):=hc' 3 (by decide)
    have y4:wr.cell? ⟨g',o'+j*9+4,none⟩=some (.slice b.ad b.s.lines.length b.cap):=hc' 4 (by decide)
    have y5:wr.cell? ⟨g',o'+j*9+5,none⟩=some (.int .i64 b.s.total):=hc' 5 (by decide)
    have y6:wr.cell? ⟨g',o'+j*9+6,none⟩=some (.int .i64 b.s.credit):=hc' 6 (by decide)
    have y7:wr.cell? ⟨g',o'+j*9+7,none⟩=some (.int .i64 b.s.min):=hc' 7 (by decide)
    have y8:wr.cell? ⟨g',o'+j*9+8,none⟩=some (.bool b.s.grace):=hc' 8 (by decide)
    have hgl:=Ag x0
    have hgl':=Ag y0
    clear hc hc'
    rcases hab:alikeB a.s b.s with _|_
    ·have hno:¬AlikeS L M n:=fun h=>by have:=h j a b hjn ha hb;rw [hab] at this;simp at this
     obtain⟨Ha,Hb,Hal,Hk,Hab,Hno⟩:=hid6 ha hb hal hk hab hno;clear hno hab hk hal hb ha
     go_wp2_with (go_at_call 115;refine(adjAlike_at _ _ _ _ _ _ _ Hab.out).mono ?_;rintro e w3 ⟨rfl,hk3⟩;have Hk3:=Lib.hid hk3;clear hk3)
     go_ret
     exact⟨false,rfl,by simp;exact Hno.out,(Hk.out.Bn ((Keeps.alloc _ _).Bn (Keeps.alloc _ _))).Bn Hk3.out⟩
    ·have hal':AlikeS L M (j+1):=fun i a' b' hi ha' hb'=>by
      by_cases hij:i<j
      ·exact hal i a' b' hij ha' hb'
      ·obtain rfl:i=j:=by omega
       rw [ha] at ha';rw [hb] at hb'
       cases ha';cases hb';exact hab
     obtain⟨Ha,Hb,Hal,Hk,Hab,Hal'⟩:=hid6 ha hb hal hk hab hal';clear hal' hab hk hal hb ha
     go_wp2_with (go_at_call 115;refine(adjAlike_at _ _ _ _ _ _ _ Hab.out).mono ?_;rintro e w3 ⟨rfl,hk3⟩;have Hk3:=Lib.hid hk3;clear hk3)
     go_roundw
     case rel=>exact⟨j+1,by omega,by go_num,Hal'.out,(Hk.out.Bn ((Keeps.alloc _ _).Bn (Keeps.alloc _ _))).Bn Hk3.out⟩
     case measure=>simp [intOf];omega
   ·obtain rfl:j=n:=by omega
    obtain⟨Hal,Hk⟩:=hid2 hal hk;clear hk hal
    go_wp2_with fail
    go_ret
    exact⟨true,rfl,by simp;exact Hal.out,Hk.out⟩
 ·have hnm':¬(n:Int)=(m:Int):=by omega
  obtain⟨H1,H2,Hn,Hm'⟩:=hid4 h1 h2 hn hm';clear hm' hn h2 h1
  go_enter Tryz.func114,Tryz.ntmps114
  go_wp2_with fail
  go_ret
  exact⟨false,rfl,by simp [hnm],Keeps.refl _ _⟩
structure Adj where
 seq:Int
 cycle:Int
 tranche:Int
 balance:Int
 interest:Int
 total:Int
 credit:Int
 min:Int
 grace:Int
deriving DecidableEq,Inhabited
def Adj.cells(d:Adj):List Value:= [.int .i64 d.seq,.int .i64 d.cycle,.int .i64 d.tranche,.int .i64 d.balance,.int .i64 d.interest,.int .i64 d.total,.int .i64 d.credit,.int .i64 d.min,.int .i64 d.grace]
theorem Adj.Am(d:Adj):d.cells.length=9:=rfl
theorem Adj.one(L:List Adj):∀u∈L.flatMap Adj.cells,u.oneCell'=true:=by
 intro u hu
 obtain⟨d,_,hd⟩:=List.mem_flatMap.1 hu
 simp only [Adj.cells,List.mem_cons,List.not_mem_nil,or_false] at hd
 rcases hd with rfl|rfl|rfl|rfl|rfl|rfl|rfl|rfl|rfl<;>rfl
def Adj.agg(a:Adj):Value:= .agg #[.int .i64 a.seq,.int .i64 a.cycle,.int .i64 a.tranche,.int .i64 a.balance,.int .i64 a.interest,.int .i64 a.total,.int .i64 a.credit,.int .i64 a.min,.int .i64 a.grace]
end Go.Proofs.YthffbjldpfionaaGreat
namespace Go.Proofs.YthffbjldpfionaaGreat
open Go.RowKit
theorem Keeps.nt{a b c:World}(h:Keeps (fun _=>False) a b)(k:Keeps (fun _=>False) b c):Keeps (fun _=>False) a c:=h.trans (k.mono (by simp))
theorem Keeps.Ap{S:Nat→Prop}{w w':World}(h:Keeps S w w'):Keeps S w w'.drew:=h.trans (Keeps.drew _)
theorem Keeps.Al{S:Nat→Prop}{w w':World}{n:Nat}(h:Keeps S w w'):Keeps S w (w'.drewN n):=h.trans (Keeps.drewN _ _)
theorem Keeps.Ae{S:Nat→Prop}{w w':World}{o:Obj}(h:Keeps S w w'):Keeps S w (w'.alloc o):=h.trans (Keeps.alloc _ _)
theorem _root_.Go.World.ownsRow.of_keeps{w w':World}{base:Nat}{e:TypeId}{size:Nat}{v:Value}{n:Nat}{xs:List Value}(h:w.ownsRow base e size v n xs)(hk:Keeps (fun _=>False) w w'):w'.ownsRow base e size v n xs:=hk.row h (by simp)
section
variable {P:Program} {md:Region.Mode} {ops:Array Oper} {Q:Exit→Act→World→Prop} {S:World→Prop}
def PureAt(P:Program)(v:Value)(w:World)(r:Result Next):Prop:=
 r= .ok (.value v) w∨∃f args,r= .ok (.enter f args) w∧Calls P f args w fun e w''=>e= .returned v∧w''=w
def YieldsP(P:Program)(ops:Array Oper)(S:World→Prop)(o:Oper)(v:Value)(a:Act):Prop:=
 (Region.wanted o (yielded ops a.tmps)=true∧∀w,S w→PureAt P v w ((execOp a.eval o).run P w))∨(Region.wanted o (yielded ops a.tmps)=false∧v=undef)
theorem YieldsP.wpOp{i:Nat}{o:Oper}{v:Value}{a:Act}(hi:ops[i]?=some o)(hy:YieldsP P ops S o v a){K:Act→World→Prop}{w:World}(hS:S w)(h:K (a.put o.dst v) w):wpOp P ops Q i K a w:=by
 unfold Go.wpOp
 rw [hi]
 rcases hy with⟨hw,hv⟩|⟨hw,rfl⟩
 ·show if Region.wanted o (yielded ops a.tmps)=true then _ else _
  rw [if_pos hw]
  refine .inl ?_
  unfold Oper.wp
  rcases hv w hS with hr|⟨f,args,hr,hc⟩
  ·rw [hr];exact h
  ·rw [hr]
   refine Calls.mono hc ?_
   rintro e w'' ⟨rfl,rfl⟩
   exact h
 ·show if Region.wanted o (yielded ops a.tmps)=true then _ else _
  rw [if_neg (by rw [hw];exact Bool.false_ne_true)]
  exact h
theorem YieldsP.same{o:Oper}{v:Value}{a a':Act}(hy:YieldsP P ops S o v a)(he:execOp a'.eval o=execOp a.eval o)(hw:Region.wanted o (yielded ops a'.tmps)=Region.wanted o (yielded ops a.tmps)):YieldsP P ops S o v a':=by
 unfold YieldsP;rw [he,hw];exact hy
theorem wpOp_slip{j:Nat}{oj:Oper}{d:Option Tmp}{v:Value}(hj:ops[j]?=some oj)(h1:∀t,d=some t→t∉oj.looksAt ops)(h2:∀t,d=some t→oj.dst≠some t)(hsj:∀cs b,oj.op≠ .select cs b)
  (hQ:∀c a w,Q (.panic c) (a.put d v) w→Q (.panic c) a w) {Y:Act→Prop} (hY:∀a u,Y a→Y (a.put oj.dst u)) (hYd:∀(a:Act) x,Y a→Y { a with defers:=x::a.defers }) {K:Act→World→Prop} {a:Act} {w:World}
  (hy:Y a) (h:wpOp P ops Q j K (a.put d v) w):wpOp P ops Q j (fun a' w'=>Y a'∧K (a'.put d v) w') a w:=by
 have hput:∀(b:Act) u,K ((b.put d v).put oj.dst u)=K ((b.put oj.dst u).put d v):=fun b u=>by rw [Act.put_comm b v u h2]
 unfold Go.wpOp at h⊢
 rw [hj] at h⊢
 have h':if Region.wanted oj (yielded ops (a.put d v).tmps)=true then Oper.wp P oj (a.put d v) w K Q∨(oj.asks P (a.put d v) w∧LetsOut Q) else K ((a.put d v).put oj.dst undef) w:=h
 rw [wanted_put oj a d v h1] at h'
 show if Region.wanted oj (yielded ops a.tmps)=true then _ else _
 by_cases hw:Region.wanted oj (yielded ops a.tmps)=true
 ·rw [if_pos hw] at h'⊢
  rcases h' with h'|⟨ha,hl⟩
  ·refine .inl ?_
   unfold Oper.wp at h'⊢
   rw [execOp_put oj hsj a d v h1] at h'
   rcases hr:(execOp a.eval oj).run P w with⟨n,w'⟩|⟨x,w'⟩
   ·rw [hr] at h'
    cases n with
    |value u=>exact⟨hY a u hy,by rw [←hput];exact h'⟩
    |skip=>exact⟨hY a _ hy,by rw [←hput];exact h'⟩
    |defer x=>
     refine⟨hY _ _ (hYd a x hy), ?_⟩
     rw [←hput,←Act.put_defers]
     exact h'
    |enter f args=>
     refine Calls.mono h' fun e w'' he=> ?_
     cases e with
     |returned u=>exact⟨hY a u hy,by rw [←hput];exact he⟩
     |panicked c=>exact hQ _ _ _ he
     |outgrown=>exact he
    |row f args=>exact Rows.mono h' fun u w'' he=>⟨hY a u hy,by rw [←hput];exact he⟩
    |_=>exact h'
   ·rw [hr] at h'
    cases x with
    |panic u=>exact hQ _ _ _ h'
    |_=>exact h'
  ·exact .inr ⟨by unfold Oper.asks at ha⊢;rw [execOp_put oj hsj a d v h1] at ha;exact ha,hl⟩
 ·rw [if_neg hw] at h'⊢
  exact⟨hY a _ hy,by rw [←hput];exact h'⟩
def wpAnyM(P:Program)(md:Region.Mode)(ops:Array Oper)(Q:Exit→Act→World→Prop)(S:World→Prop)(z:Nat):Nat→Array Bool→Act→World→Prop
 |0,listed,a,w=>Region.ready md ops listed= []∧Q .normal a w
 |fuel+1,listed,a,w=>(Region.ready md ops listed= []→Q .normal a w)∧
   ∀i∈Region.ready md ops listed,wpOp P ops Q i (fun a' w'=>(i=z∨S w')∧wpAnyM P md ops Q S z fuel (listed.setIfInBounds i true) a' w') a w
theorem wpAny_of_M{z:Nat}:∀(fuel:Nat) (listed:Array Bool) (a:Act) (w:World),wpAnyM P md ops Q S z fuel listed a w→wpAny P md ops Q fuel listed a w
 |0,_,_,_,h=>h
 |fuel+1,_,_,_,h=>⟨h.1,fun i hi=>wpOp_mono (fun a' w' h'=>wpAny_of_M fuel _ a' w' h'.2) (h.2 i hi)⟩
theorem wpAnyM_done{z:Nat}{listed:Array Bool}{a:Act}{w:World}(hr:Region.ready md ops listed= [])(h:Q .normal a w):∀fuel,wpAnyM P md ops Q S z fuel listed a w
 |0=>⟨hr,h⟩
 |_+1=>⟨fun _=>h,by rw [hr];simp⟩
def lastB(md:Region.Mode)(ops:Array Oper)(z:Nat):Bool:=match ops[z]? with
 |none=>true
 |some o=>(List.range ops.size).all fun k=>k==z||o.after.any fun e=>Region.binds md e&&e.on==k
theorem wpAnyM_slip{z i:Nat}{oi:Oper}{v:Value}(hi:ops[i]?=some oi)(hz:lastB md ops z=true)(hiz:i≠z)(hsel:∀(j:Nat) (o:Oper) cs b,ops[j]?=some o→o.op≠ .select cs b)(hQ:∀c a w,Q (.panic c) (a.put oi.dst v) w→Q (.panic c) a w):
  ∀(fuel:Nat) (listed:Array Bool) (a:Act) (w:World),i∈Region.ready md ops listed→YieldsP P ops S oi v a→S w→
   (∀j oj,ops[j]?=some oj→j≠i→listed.getD j true=false→(∀e∈oj.after,Region.binds md e=true→e.on≠i)→oi.apart ops oj=true)→
   wpAnyM P md ops Q S z fuel (listed.setIfInBounds i true) (a.put oi.dst v) w→wpAnyM P md ops Q S z (fuel+1) listed a w
 |0,listed,a,w,hr,hy,hS,hfree,H=>by
  refine⟨fun h=>absurd hr (by rw [h];simp),fun j hj=> ?_⟩
  by_cases hji:j=i
  ·subst hji;exact hy.wpOp hi hS ⟨.inr hS,H⟩
  ·have hc:=ready_mono hj hji
   rw [H.1] at hc
   simp at hc
 |fuel+1,listed,a,w,hr,hy,hS,hfree,H=>by
  refine⟨fun h=>absurd hr (by rw [h];simp),fun j hj=> ?_⟩
  by_cases hji:j=i
  ·subst hji;exact hy.wpOp hi hS ⟨.inr hS,H⟩
  obtain⟨hun,oj,hoj,hall⟩:=mem_ready.1 hj
  have hi0:=(mem_ready.1 hr).1
  have hno:∀e∈oj.after,Region.binds md e=true→e.on≠i:=by
   intro e he hb heq
   have ht:=hall e he hb
   rw [heq] at ht
   rcases Nat.lt_or_ge i listed.size with hlt|hge
   ·have e1:listed.getD i true=listed[i]:=by simp [hlt]
    have e2:listed.getD i false=listed[i]:=by simp [hlt]
    rw [e1] at hi0;rw [e2,hi0] at ht;simp at ht
   ·have e2:listed.getD i false=false:=by simp [Array.getElem?_eq_none hge]
    rw [e2] at ht;simp at ht
  have hjz:j≠z:=by
   intro e
   subst e
   unfold lastB at hz
   rw [hoj] at hz
   have hil:i<ops.size:=by
    rcases Nat.lt_or_ge i ops.size with h|h
    ·exact h
    ·rw [Array.getElem?_eq_none h] at hi;simp at hi
   have hk:=List.all_eq_true.1 hz i (List.mem_range.2 hil)
   simp only [Bool.or_eq_true,beq_iff_eq,Array.any_eq_true',Bool.and_eq_true] at hk
   rcases hk with h|⟨e,he,hb,ho⟩
   ·exact hji h.symm
   ·exact hno e he hb ho
  obtain⟨p1,p2,p3⟩:=Oper.apart_spec (hfree j oj hoj hji hun hno)
  have hstep:=wpOp_slip hoj p1 p2 (hsel j oj · · hoj) hQ (Y:=YieldsP P ops S oi v) (fun a u hy=>hy.same (execOp_put oi (hsel i oi · · hi) a oj.dst u p3) (wanted_put oi a oj.dst u p3)) (fun a x hy=>hy.same rfl rfl) hy (H.2 j (ready_mono hj hji))
  refine wpOp_mono (fun a' w' h3=>⟨h3.2.1, ?_⟩) hstep
  have hS':S w':=h3.2.1.resolve_left hjz
  have hfree':∀k ok,ops[k]?=some ok→k≠i→(listed.setIfInBounds j true).getD k true=false→(∀e∈ok.after,Region.binds md e=true→e.on≠i)→oi.apart ops ok=true:=by
   intro k ok hk hki hku hkn
   by_cases hjk:j=k
   ·subst hjk;exact hfree j ok hk hki hun hkn
   ·rw [getD_set_ne true hjk] at hku;exact hfree k ok hk hki hku hkn
  refine wpAnyM_slip hi hz hiz hsel hQ fuel _ a' w' (ready_mono hr (Ne.symm hji)) h3.1 hS' hfree' ?_
  rw [Array.setIfInBounds_comm _ _ hji]
  exact h3.2.2
inductive MO where
 |done
 |take (i:Nat) (r:MO)
 |move (i:Nat) (r:MO)
 |fork (i:Nat) (r:MO) (j:Nat) (s:MO)
 |fork3 (i:Nat) (r:MO) (j:Nat) (s:MO) (k:Nat) (u:MO)
def MO.depth:MO→Nat
 | .done=>0
 | .take _ r=>r.depth+1
 | .move _ r=>r.depth+1
 | .fork _ r _ s=>max r.depth s.depth+1
 | .fork3 _ r _ s _ u=>max (max r.depth s.depth) u.depth+1
def MO.isDone:MO→Bool
 | .done=>true
 |_=>false
def mixB(md:Region.Mode)(ops:Array Oper)(z:Nat):MO→Array Bool→Bool
 | .done,listed=>(Region.ready md ops listed).isEmpty
 | .take i r,listed=>(((Region.ready md ops listed).contains i&&Region.free md ops listed i)&&i !=z)&&mixB md ops z r (listed.setIfInBounds i true)
 | .move i r,listed=>(Region.ready md ops listed== [i]&&(i !=z||r.isDone))&&mixB md ops z r (listed.setIfInBounds i true)
 | .fork i r j s,listed=>((Region.ready md ops listed== [i,j]&&i !=z)&&j !=z)&&(mixB md ops z r (listed.setIfInBounds i true)&&mixB md ops z s (listed.setIfInBounds j true))
 | .fork3 i r j s k u,listed=>(((Region.ready md ops listed== [i,j,k]&&i !=z)&&j !=z)&&k !=z)&&(mixB md ops z r (listed.setIfInBounds i true)&&(mixB md ops z s (listed.setIfInBounds j true)&&mixB md ops z u (listed.setIfInBounds k true)))
def Mix(P:Program)(ops:Array Oper)(Q:Exit→Act→World→Prop)(S:World→Prop)(z:Nat):MO→Act→World→Prop
 | .done,a,w=>Q .normal a w
 | .take i r,a,w=>∃o v,ops[i]?=some o∧YieldsP P ops S o v a∧Mix P ops Q S z r (a.put o.dst v) w
 | .move i r,a,w=>(∃o v,ops[i]?=some o∧YieldsP P ops S o v a∧Mix P ops Q S z r (a.put o.dst v) w)∨wpOp P ops Q i (fun a' w'=>(i=z∨S w')∧Mix P ops Q S z r a' w') a w
 | .fork i r j s,a,w=>wpOp P ops Q i (fun a' w'=>(i=z∨S w')∧Mix P ops Q S z r a' w') a w∧wpOp P ops Q j (fun a' w'=>(j=z∨S w')∧Mix P ops Q S z s a' w') a w
 | .fork3 i r j s k u,a,w=>wpOp P ops Q i (fun a' w'=>(i=z∨S w')∧Mix P ops Q S z r a' w') a w∧wpOp P ops Q j (fun a' w'=>(j=z∨S w')∧Mix P ops Q S z s a' w') a w∧wpOp P ops Q k (fun a' w'=>(k=z∨S w')∧Mix P ops Q S z u a' w') a w
theorem Mix.sound{z:Nat}(hs:Region.noSelect ops=true)(hz:lastB md ops z=true)(hQ:∀(d:Option Tmp) (v:Value) c a w,Q (.panic c) (a.put d v) w→Q (.panic c) a w):
  ∀(ord:MO) (fuel:Nat) (listed:Array Bool) (a:Act) (w:World),ord.depth≤fuel→mixB md ops z ord listed=true→(ord.isDone=true∨S w)→Mix P ops Q S z ord a w→wpAnyM P md ops Q S z fuel listed a w
 | .done,fuel,listed,a,w,_,hB,_,h=>wpAnyM_done (by simpa [mixB] using hB) h _
 | .take i r,fuel,listed,a,w,hd,hB,hS,h=>by
  simp only [mixB,Bool.and_eq_true,bne_iff_ne] at hB
  obtain⟨⟨⟨h1,h2⟩,hiz⟩,h3⟩:=hB
  obtain⟨o,v,hi,hy,h⟩:=h
  have hS':S w:=hS.resolve_left (by simp [MO.isDone])
  cases fuel with
  |zero=>simp [MO.depth] at hd
  |succ fuel=>
   refine wpAnyM_slip hi hz hiz (Region.noSelect_spec hs) (hQ o.dst v) fuel listed a w (by simpa using h1) hy hS' (Region.free_spec hi h2) ?_
   exact Mix.sound hs hz hQ r fuel _ _ _ (by simp only [MO.depth] at hd;omega) h3 (.inr hS') h
 | .move i r,fuel,listed,a,w,hd,hB,hS,h=>by
  simp only [mixB,Bool.and_eq_true,beq_iff_eq,Bool.or_eq_true,bne_iff_ne] at hB
  obtain⟨⟨h1,h2⟩,h3⟩:=hB
  have hS':S w:=hS.resolve_left (by simp [MO.isDone])
  cases fuel with
  |zero=>simp [MO.depth] at hd
  |succ fuel=>
   have hd':r.depth≤fuel:=by simp only [MO.depth] at hd;omega
   refine⟨fun e=>by rw [h1] at e;simp at e,fun j hj=> ?_⟩
   obtain rfl:j=i:=by rw [h1] at hj;simpa using hj
   rcases h with⟨o,v,hi,hy,h⟩|h
   ·exact hy.wpOp hi hS' ⟨.inr hS',Mix.sound hs hz hQ r fuel _ _ _ hd' h3 (.inr hS') h⟩
   ·refine wpOp_mono (fun a' w' hh=>⟨hh.1,Mix.sound hs hz hQ r fuel _ _ _ hd' h3 ?_ hh.2⟩) h
    rcases hh.1 with e|e
    ·exact .inl (h2.resolve_left fun hn=>hn e)
    ·exact .inr e
 | .fork i r j s,fuel,listed,a,w,hd,hB,hS,h=>by
  simp only [mixB,Bool.and_eq_true,beq_iff_eq,bne_iff_ne] at hB
  obtain⟨⟨⟨h1,hiz⟩,hjz⟩,h3,h4⟩:=hB
  cases fuel with
  |zero=>simp [MO.depth] at hd
  |succ fuel=>
   have hd1:r.depth≤fuel:=by simp only [MO.depth] at hd;omega
   have hd2:s.depth≤fuel:=by simp only [MO.depth] at hd;omega
   refine⟨fun e=>by rw [h1] at e;simp at e,fun k hk=> ?_⟩
   rw [h1] at hk
   rcases(by simpa using hk:k=i∨k=j) with rfl|rfl
   ·exact wpOp_mono (fun a' w' hh=>⟨hh.1,Mix.sound hs hz hQ r fuel _ _ _ hd1 h3 (.inr (hh.1.resolve_left hiz)) hh.2⟩) h.1
   ·exact wpOp_mono (fun a' w' hh=>⟨hh.1,Mix.sound hs hz hQ s fuel _ _ _ hd2 h4 (.inr (hh.1.resolve_left hjz)) hh.2⟩) h.2
 | .fork3 i r j s l u,fuel,listed,a,w,hd,hB,hS,h=>by
  simp only [mixB,Bool.and_eq_true,beq_iff_eq,bne_iff_ne] at hB
  obtain⟨⟨⟨⟨h1,hiz⟩,hjz⟩,hlz⟩,h3,h4,h5⟩:=hB
  cases fuel with
  |zero=>simp [MO.depth] at hd
  |succ fuel=>
   have hd1:r.depth≤fuel:=by simp only [MO.depth] at hd;omega
   have hd2:s.depth≤fuel:=by simp only [MO.depth] at hd;omega
   have hd3:u.depth≤fuel:=by simp only [MO.depth] at hd;omega
   refine⟨fun e=>by rw [h1] at e;simp at e,fun k hk=> ?_⟩
   rw [h1] at hk
   rcases(by simpa using hk:k=i∨k=j∨k=l) with rfl|rfl|rfl
   ·exact wpOp_mono (fun a' w' hh=>⟨hh.1,Mix.sound hs hz hQ r fuel _ _ _ hd1 h3 (.inr (hh.1.resolve_left hiz)) hh.2⟩) h.1
   ·exact wpOp_mono (fun a' w' hh=>⟨hh.1,Mix.sound hs hz hQ s fuel _ _ _ hd2 h4 (.inr (hh.1.resolve_left hjz)) hh.2⟩) h.2.1
   ·exact wpOp_mono (fun a' w' hh=>⟨hh.1,Mix.sound hs hz hQ u fuel _ _ _ hd3 h5 (.inr (hh.1.resolve_left hlz)) hh.2⟩) h.2.2
theorem Cy{id:Nat}{a:Act}{w:World}{l:List Oper}(S:World→Prop)(z:Nat)(ord:MO)(hm:P.follows .mixedOrders=true)(hB:((mixB .any l.toArray z ord (Array.replicate l.toArray.size false)&&lastB .any l.toArray z)&&(Region.noSelect l.toArray&&Nat.ble ord.depth l.toArray.size))=true)
  (hS:S w.drew) (h:∀w1,S w1→Keeps (fun _=>False) w w1→Mix P l.toArray (NoPanic Q) S z ord a w1):(Code.region id l.toArray true).wp P Q a w:=by
 simp only [Bool.and_eq_true,Nat.ble_eq] at hB
 obtain⟨⟨h1,h0⟩,h2,h3⟩:=hB
 exact wp_region_noPanic (wp_region_any hm (wpAny_of_M _ _ _ _ (Mix.sound h2 h0 (fun _ _ _ _ _ hh=>(show False from hh).elim) ord _ _ _ _ h3 h1 (.inr hS) (h _ hS (Keeps.drew _)))))
theorem Ao{id:Nat}{a:Act}{w:World}{l:List Oper}(S:World→Prop)(ord:MO)(hm:P.follows .mixedOrders=true)(hB:((mixB .any l.toArray l.toArray.size ord (Array.replicate l.toArray.size false)&&lastB .any l.toArray l.toArray.size)&&(Region.noSelect l.toArray&&Nat.ble ord.depth l.toArray.size))=true)
  (hS:S w.drew) (h:∀w1,S w1→Keeps (fun _=>False) w w1→Mix P l.toArray (NoPanic Q) S l.toArray.size ord a w1):(Code.region id l.toArray true).wp P Q a w:=Cy S _ ord hm hB hS h
theorem Aw{z:Nat}{a:Act}{w:World}(h:Q .normal a w):Mix P ops (NoPanic Q) S z .done a w:=h
section
variable {z:Nat} {dst:Option Tmp} {op:Op} {ty:TypeId} {pos:String} {af:Array Edge} {gd:Option (Nat×Bool)} {i:Nat} {r:MO} {v:Value} {a:Act} {w:World}
theorem Ai(hi:ops[i]?=some ⟨dst,op,ty,pos,af,gd⟩)(hw:Region.wanted ⟨dst,op,ty,pos,af,gd⟩ (yielded ops a.tmps)=false)(h:Mix P ops Q S z r (a.put dst undef) w):Mix P ops Q S z (.take i r) a w:=⟨_,undef,hi,.inr ⟨hw,rfl⟩,h⟩
theorem Af(hi:ops[i]?=some ⟨dst,op,ty,pos,af,gd⟩)(hw:Region.wanted ⟨dst,op,ty,pos,af,gd⟩ (yielded ops a.tmps)=false)(h:Mix P ops Q S z r (a.put dst undef) w):Mix P ops Q S z (.move i r) a w:= .inl ⟨_,undef,hi,.inr ⟨hw,rfl⟩,h⟩
theorem Ah(hi:ops[i]?=some ⟨dst,op,ty,pos,af,gd⟩)(hw:Region.wanted ⟨dst,op,ty,pos,af,gd⟩ (yielded ops a.tmps)=true)
  (hy:∀w,S w→(execOp a.eval ⟨dst,op,ty,pos,af,gd⟩).run P w= .ok (.value v) w) (h:Mix P ops Q S z r (a.put dst v) w):Mix P ops Q S z (.take i r) a w:=⟨_,v,hi,.inl ⟨hw,fun w hS=> .inl (hy w hS)⟩,h⟩
theorem mix_pure(hi:ops[i]?=some ⟨dst,op,ty,pos,af,gd⟩)(hw:Region.wanted ⟨dst,op,ty,pos,af,gd⟩ (yielded ops a.tmps)=true)(f:FuncId)(args:Array Value)
  (hr:∀w,S w→(execOp a.eval ⟨dst,op,ty,pos,af,gd⟩).run P w= .ok (.enter f args) w) (hy:∀w,S w→Calls P f args w fun e w''=>e= .returned v∧w=w'') (h:Mix P ops Q S z r (a.put dst v) w):Mix P ops Q S z (.take i r) a w:=
 ⟨_,v,hi,.inl ⟨hw,fun w hS=> .inr ⟨f,args,hr w hS,(hy w hS).mono fun _ _ ⟨h1,h2⟩=>⟨h1,h2.symm⟩⟩⟩,h⟩
theorem Ak(hi:ops[i]?=some ⟨dst,op,ty,pos,af,gd⟩)
  (h:∀K:Act→World→Prop,Shut (∀a' w',S w'→Mix P ops Q S z r a' w'→K a' w')→if Region.wanted ⟨dst,op,ty,pos,af,gd⟩ (yielded ops a.tmps)=true then Oper.wp P ⟨dst,op,ty,pos,af,gd⟩ a w K Q else K (a.put dst undef) w):
  Mix P ops Q S z (.move i r) a w:= .inr (wpOp_step hi fun K hK=>h K fun a' w' hS hM=>hK a' w' ⟨.inr hS,hM⟩)
theorem Cr(hi:ops[i]?=some ⟨dst,op,ty,pos,af,gd⟩)
  (h:∀K:Act→World→Prop,Shut (∀a' w',Mix P ops Q S i r a' w'→K a' w')→if Region.wanted ⟨dst,op,ty,pos,af,gd⟩ (yielded ops a.tmps)=true then Oper.wp P ⟨dst,op,ty,pos,af,gd⟩ a w K Q else K (a.put dst undef) w):
  Mix P ops Q S i (.move i r) a w:= .inr (wpOp_step hi fun K hK=>h K fun a' w' hM=>hK a' w' ⟨.inl rfl,hM⟩)
theorem mix_to{i:Nat}{r:MO}(h:Mix P ops Q S z (.move i r) a w)(hS:S w):wpOp P ops Q i (fun a' w'=>(i=z∨S w')∧Mix P ops Q S z r a' w') a w:=by
 rcases h with⟨o,v,hi,hy,h⟩|h
 ·exact hy.wpOp hi hS ⟨.inr hS,h⟩
 ·exact h
theorem mix_fork3{j k:Nat}{s u:MO}(h1:Mix P ops Q S z (.move i r) a w)(h2:Mix P ops Q S z (.move j s) a w)(h3:Mix P ops Q S z (.move k u) a w)(hS:S w):Mix P ops Q S z (.fork3 i r j s k u) a w:=⟨mix_to h1 hS,mix_to h2 hS,mix_to h3 hS⟩
theorem Cv{j:Nat}{s:MO}(h1:Mix P ops Q S z (.move i r) a w)(h2:Mix P ops Q S z (.move j s) a w)(hS:S w):Mix P ops Q S z (.fork i r j s) a w:=by
 refine⟨?_, ?_⟩
 ·rcases h1 with⟨o,v,hi,hy,h⟩|h
  ·exact hy.wpOp hi hS ⟨.inr hS,h⟩
  ·exact h
 ·rcases h2 with⟨o,v,hi,hy,h⟩|h
  ·exact hy.wpOp hi hS ⟨.inr hS,h⟩
  ·exact h
end
end
end Go.Proofs.YthffbjldpfionaaGreat
namespace Go.Proofs.YthffbjldpfionaaGreat
open Go.RowKit
theorem info_tAdjust:(Tryz.prog.info? 70).map (fun i=>(i.zero,i.size,i.bytes))=some (some (.agg #[.int .i64 0,.int .i64 0,.int .i64 0,.int .i64 0,.int .i64 0,.int .i64 0,.int .i64 0,.int .i64 0,.int .i64 0]),9,72):=by kernel_rfl
def lineAdj(seq cy:Int)(k:Nat)(x y:Ln):List Adj:=
 if x.balance=y.balance∧x.interest=y.interest then [] else [⟨seq,cy,(k:Int)+1,y.balance-x.balance,y.interest-x.interest,0,0,0,0⟩]
def Cg(seq cy:Int)(X Y:List Ln):Nat→List Adj
 |0=> []
 |k+1=>Cg seq cy X Y k++(match X[k]?,Y[k]? with|some x,some y=>lineAdj seq cy k x y|_,_=> [])
def wholeAdj(seq:Int)(a b:Stm):Adj:=⟨seq,a.cycle,0,0,0,b.total-a.total,b.credit-a.credit,b.min-a.min,turnedI a.grace b.grace⟩
def wholeSame(a b:Stm):Bool:=decide (a.total=b.total)&&decide (a.credit=b.credit)&&decide (a.min=b.min)&&(a.grace==b.grace)
def oneAdj(seq:Int)(a b:Stm):List Adj:=Cg seq a.cycle a.lines b.lines a.lines.length++if wholeSame a b then [] else [wholeAdj seq a b]
def Stm.blk(s:Stm)(v:Value):Array Value:= #[.int .i64 s.cycle,.int .i64 s.fr,.int .i64 s.te,.int .i64 s.due,v,.int .i64 s.total,.int .i64 s.credit,.int .i64 s.min,.bool s.grace]
structure OneS(w W:World)(seq:Int)(a b:Stm)(va vb:Value)(W0:Nat)(v:Value)(k:Nat):Prop where
 ba:W.heap[w.heap.size]?=some (.cells (a.blk va) 42 (0,0))
 bb:W.heap[w.heap.size+1]?=some (.cells (b.blk vb) 42 (0,0))
 bw:W.heap[W0]?=some (.cells (wholeAdj seq a b).cells.toArray 70 (0,0))
 w0:w.heap.size+1<W0
 row:W.ownsRow 0 70 9 v (Cg seq a.cycle a.lines b.lines k).length ((Cg seq a.cycle a.lines b.lines k).flatMap Adj.cells)
 kp:Keeps (fun _=>False) w W
 nw:∀g,v.ownBlock=some g→W0<g
theorem OneS.keep{w W W':World}{seq:Int}{a b:Stm}{va vb:Value}{W0:Nat}{v:Value}{k:Nat}(h:OneS w W seq a b va vb W0 v k)(hk:Keeps (fun _=>False) W W'):OneS w W' seq a b va vb W0 v k:=
 ⟨Ad h.ba hk (by simp),Ad h.bb hk (by simp),Ad h.bw hk (by simp),h.w0,hk.row h.row (by simp),h.kp.Bn hk,h.nw⟩
def slotNat(i:Nat)(a':Act):Nat:=match a'.tmps.getD i undef with| .int _ n=>n.toNat|_=>0
def oneFr(w:World)(seq:Int)(W0:Nat)(v:Value)(k:Nat)(u:Nat→Value):Act:={ tmps:= #[.int .i64 seq,u 1,u 2,u 3,(.pointer (some ⟨w.heap.size,0,none⟩)),(.pointer (some ⟨w.heap.size+1,0,none⟩)),u 6,v,.int .i64 k,(.pointer (some ⟨W0,0,none⟩)),u 10,u 11,u 12,u 13,u 14,u 15,u 16,u 17,u 18,u 19,u 20,u 21,u 22,u 23,u 24,u 25,u 26,u 27,u 28,u 29,u 30,u 31,u 32,u 33,u 34,u 35,u 36,u 37,u 38,u 39,u 40,u 41,u 42,u 43,u 44,u 45,u 46,u 47,u 48,u 49,u 50,u 51,u 52,u 53,u 54,u 55,u 56,u 57,u 58,u 59,u 60,u 61,u 62,u 63,u 64,u 65,u 66,u 67,u 68,u 69,u 70,u 71,u 72,u 73,u 74,u 75,u 76,u 77,u 78,u 79,u 80,u 81,u 82,u 83,u 84,u 85,u 86,u 87,u 88,u 89,u 90,u 91,u 92,u 93],defers:= [] }
def oneJ(w:World)(seq:Int)(a b:Stm)(va vb:Value)(a':Act)(W:World):Prop:=∃(W0:Nat) (v:Value) (k:Nat) (u:Nat→Value),a'=oneFr w seq W0 v k u∧OneS w W seq a b va vb W0 v k∧k≤a.lines.length
theorem oneJ.mk{w W:World}{seq:Int}{a b:Stm}{va vb:Value}{a':Act}(W0:Nat)(v:Value)(k:Nat)(h:a'=oneFr w seq W0 v k (fun i=>a'.tmps.getD i undef))(hs:OneS w W seq a b va vb W0 v k)(hk:k≤a.lines.length):oneJ w seq a b va vb a' W:=⟨W0,v,k,_,h,hs,hk⟩
def OnePost(w:World)(seq:Int)(a b:Stm)(e:Ending)(w':World):Prop:=
 ∃v,e= .returned v∧w'.ownsRow 0 70 9 v (oneAdj seq a b).length ((oneAdj seq a b).flatMap Adj.cells)∧Fresh w w' v
theorem moneyB_bd{v:Int}(h:moneyB v=true):0≤v∧v≤1000000000000000:=by
 have hd:moneyB v=decide (0≤v∧v≤1000000000000000):=rfl
 rw [hd] at h;simpa using h
theorem numbersB_bd{s:Stm}(h:s.Cf=true):(0≤s.total∧s.total≤1000000000000000)∧(0≤s.credit∧s.credit≤1000000000000000)∧(0≤s.min∧s.min≤1000000000000000):=by
 simp only [Stm.Cf,Bz,List.all_cons,List.all_nil,Bool.and_eq_true,Bool.and_true] at h
 exact⟨moneyB_bd h.2.1,moneyB_bd h.2.2.1,moneyB_bd h.2.2.2⟩
theorem numbersB_ln{s:Stm}(h:s.Cf=true){k:Nat}{x:Ln}(hx:s.lines[k]?=some x):(0≤x.balance∧x.balance≤1000000000000000)∧(0≤x.interest∧x.interest≤1000000000000000):=by
 simp only [Stm.Cf,Bool.and_eq_true] at h
 have:=List.all_eq_true.1 h.1 x (List.mem_of_getElem? hx)
 simp only [Ln.numsB,Bz,List.all_cons,List.all_nil,Bool.and_eq_true,Bool.and_true] at this
 exact⟨moneyB_bd this.1,moneyB_bd this.2⟩
def onS(w:World)(a b:Stm)(w':World):Prop:=w'.cell? ⟨w.heap.size,0,none⟩=some (.int .i64 a.cycle)∧w'.cell? ⟨w.heap.size,5,none⟩=some (.int .i64 a.total)∧w'.cell? ⟨w.heap.size,6,none⟩=some (.int .i64 a.credit)∧w'.cell? ⟨w.heap.size,7,none⟩=some (.int .i64 a.min)∧w'.cell? ⟨w.heap.size,8,none⟩=some (.bool a.grace)∧w'.cell? ⟨w.heap.size+1,5,none⟩=some (.int .i64 b.total)∧w'.cell? ⟨w.heap.size+1,6,none⟩=some (.int .i64 b.credit)∧w'.cell? ⟨w.heap.size+1,7,none⟩=some (.int .i64 b.min)∧w'.cell? ⟨w.heap.size+1,8,none⟩=some (.bool b.grace)
theorem onS.keep{w W W':World}{a b:Stm}(h:onS w a b W)(hk:Keeps (fun _=>False) W W'):onS w a b W':=by
 obtain⟨h0,h1,h2,h3,h4,h5,h6,h7,h8⟩:=h
 exact⟨(hk.cell (Ag h0) (by simp)).trans h0,(hk.cell (Ag h1) (by simp)).trans h1,(hk.cell (Ag h2) (by simp)).trans h2,(hk.cell (Ag h3) (by simp)).trans h3,(hk.cell (Ag h4) (by simp)).trans h4,(hk.cell (Ag h5) (by simp)).trans h5,(hk.cell (Ag h6) (by simp)).trans h6,(hk.cell (Ag h7) (by simp)).trans h7,(hk.cell (Ag h8) (by simp)).trans h8⟩
def onL(B g o g' o' k n ca cb:Nat)(xb xi xr yb yi yr:Int)(w':World):Prop:=
 w'.cell? ⟨B,4,none⟩=some (.slice (some ⟨g,o,none⟩) n ca)∧w'.cell? ⟨B+1,4,none⟩=some (.slice (some ⟨g',o',none⟩) n cb)∧w'.cell? ⟨g,o+k*3,none⟩=some (.int .i64 xb)∧w'.cell? ⟨g,o+k*3+1,none⟩=some (.int .i64 xi)∧w'.cell? ⟨g,o+k*3+2,none⟩=some (.int .i64 xr)∧
  w'.cell? ⟨g',o'+k*3,none⟩=some (.int .i64 yb)∧w'.cell? ⟨g',o'+k*3+1,none⟩=some (.int .i64 yi)∧w'.cell? ⟨g',o'+k*3+2,none⟩=some (.int .i64 yr)
theorem onL.keep{B g o g' o' k n ca cb:Nat}{xb xi xr yb yi yr:Int}{W W':World}(h:onL B g o g' o' k n ca cb xb xi xr yb yi yr W)(hk:Keeps (fun _=>False) W W'):onL B g o g' o' k n ca cb xb xi xr yb yi yr W':=by
 exact jZ45
theorem wp_scope_jumps3{P:Program}{a:Act}{w:World}{Q:Exit→Act→World→Prop}{c rest:Code}(l:Nat)(J:Act→World→Prop)(M:Act→World→Nat)(hf:findLabel c l=some (Code.skip.seq rest))
  (round:∀a w,J a w→rest.wp P (Exit.jump l (fun a' w'=>J a' w'∧M a' w'<M a w) Q) a w)
  (first:(∀a w,J a w→rest.wp P (Exit.jump l J Q) a w)→c.wp P (Exit.jump l J Q) a w):(Code.scope c).wp P Q a w:=by
 exact jZ70
theorem heap_alloc_at(w:World)(o:Obj){i:Nat}(h:i=w.heap.size):(w.alloc o).heap[i]?=some o:=by subst h;exact heap_alloc_new w o
theorem linesAdj_le(seq cy:Int)(X Y:List Ln):∀k,(Cg seq cy X Y k).length≤k
 |0=>Nat.le_refl _
 |k+1=>by
  have ih:=linesAdj_le seq cy X Y k
  simp only [Cg,List.length_append]
  have:(match X[k]?,Y[k]? with|some x,some y=>lineAdj seq cy k x y|_,_=> []).length≤1:=by
   rcases X[k]? with _|x<;>rcases Y[k]? with _|y<;>simp
   unfold lineAdj;split<;>simp
  omega
theorem OneS.app{w W W':World}{seq:Int}{a b:Stm}{va vb:Value}{W0:Nat}{v v':Value}{k:Nat}{x:Adj}{m:Nat}{xs:List Value}(h:OneS w W seq a b va vb W0 v k)(hl:Cg seq a.cycle a.lines b.lines (k+1)=Cg seq a.cycle a.lines b.lines k++ [x])
  (hm:m=(Cg seq a.cycle a.lines b.lines k).length+1) (hx:xs=(Cg seq a.cycle a.lines b.lines k).flatMap Adj.cells++x.cells) (ho:W'.ownsRow 0 70 9 v' m xs) (hk:Keeps (fun i=>v.ownBlock=some i) W W') (hf:v'.ownBlock=v.ownBlock∨∃g,v'.ownBlock=some g∧W.heap.size≤g):
  OneS w W' seq a b va vb W0 v' (k+1):=by
 have hbw:=lt_of_block h.bw
 have n1:∀g,v.ownBlock=some g→w.heap.size+1<g:=fun g hg=>by have:=h.nw g hg;have:=h.w0;omega
 refine⟨Ad h.ba hk (fun e=>by have:=n1 _ e;omega),Ad h.bb hk (fun e=>by have:=n1 _ e;omega),Ad h.bw hk (fun e=>by have:=h.nw _ e;omega),h.w0, ?_,h.kp.trans (hk.mono fun i _ e=>by right;have:=n1 _ e;omega),fun g hg=> ?_⟩
 ·rw [hl]
  simp only [List.length_append,List.length_singleton,List.flatMap_append,List.flatMap_cons,List.flatMap_nil,List.append_nil]
  rw [←hx,←hm];exact ho
 ·rcases hf with e|⟨g',e,h'⟩
  ·exact h.nw g (by rw [←e];exact hg)
  ·rw [e] at hg;simp only [Option.some.injEq] at hg;omega
theorem wholeSame_iff(a b:Stm):wholeSame a b=true↔(b.total-a.total=0∧b.credit-a.credit=0∧b.min-a.min=0∧turnedI a.grace b.grace=0):=by
 have hg:(a.grace==b.grace)=true↔turnedI a.grace b.grace=0:=by cases a.grace<;>cases b.grace<;>decide
 simp only [wholeSame,Bool.and_eq_true,decide_eq_true_eq,hg]
 constructor
 ·rintro⟨⟨⟨h1,h2⟩,h3⟩,h4⟩;exact⟨by omega,by omega,by omega,h4⟩
 ·rintro⟨h1,h2,h3,h4⟩;exact⟨⟨⟨by omega,by omega⟩,by omega⟩,h4⟩
set_option maxRecDepth 100000
set_option maxHeartbeats 3200000
theorem adjOne_any(seq:Int)(a b:Stm)(va vb:Value)(w:World)(hra:Reads w 3 va a.lines.length (a.lines.flatMap Ln.cells))(hrb:Reads w 3 vb b.lines.length (b.lines.flatMap Ln.cells))(hab:a.lines.length=b.lines.length)(hl:a.lines.length≤1000000)
  (hna:a.Cf=true) (hnb:b.Cf=true):
  Calls Tryz.prog 117 #[.int .i64 seq,a.val va,b.val vb] w (OnePost w seq a b):=by
 obtain⟨i0,hi,hi0,hi1,hi2⟩:=info_parts info_tAdjust
 simp only [Stm.val]
 have hba:=heap_alloc_new w (.cells (a.blk va) 42)
 have hbb:=heap_alloc_new (w.alloc (.cells (a.blk va) 42)) (.cells (b.blk vb) 42)
 rw [show(w.alloc (.cells (a.blk va) 42)).heap.size=w.heap.size+1 by simp] at hbb
 have hba2:=Au hba (.cells (b.blk vb) 42)
 have m0:=numbersB_bd hna
 have m1:=numbersB_bd hnb
 obtain⟨⟨ta0,ta1⟩,⟨ca0,ca1⟩,⟨ma0,ma1⟩⟩:=m0
 obtain⟨⟨tb0,tb1⟩,⟨cb0,cb1⟩,⟨mb0,mb1⟩⟩:=m1
 have w0:IntKind.i64.wrap (b.total-a.total)=b.total-a.total:=IntWalk.i64_in _ (by omega)
 have w1:IntKind.i64.wrap (b.credit-a.credit)=b.credit-a.credit:=IntWalk.i64_in _ (by omega)
 have w2:IntKind.i64.wrap (b.min-a.min)=b.min-a.min:=IntWalk.i64_in _ (by omega)
 clear ta0 ta1 ca0 ca1 ma0 ma1 tb0 tb1 cb0 cb1 mb0 mb1
 obtain⟨Hra,Hrb,Hab,Hna,Hnb,Hba,Hba2,Hbb,Hi⟩:=hid9 hra hrb hab hna hnb hba hba2 hbb hi;clear hi hbb hba2 hba hnb hna hab hrb hra;obtain⟨Hi0,Hi1,Hi2⟩:=hid3 hi0 hi1 hi2;clear hi2 hi1 hi0
 go_enter Tryz.func117,Tryz.ntmps117
 go_wp2_with fail
 refine wp_scope_jumps3 0 (oneJ w seq a b va vb) (fun a' _=>a.lines.length-slotNat 8 a') rfl ?_ ?_
 ·rintro a' W ⟨W0,v,k,u,rfl,hs,hk⟩
  unfold oneFr
  have a0:W.cell? ⟨w.heap.size,0,none⟩=some (.int .i64 a.cycle):=Aa hs.ba 0
  have a3:W.cell? ⟨w.heap.size,4,none⟩=some va:=Aa hs.ba 4
  have b3:W.cell? ⟨w.heap.size+1,4,none⟩=some vb:=Aa hs.bb 4
  have la:=lt_of_block hs.ba
  have lb:=lt_of_block hs.bb
  obtain⟨n,hn⟩:∃n,a.lines.length=n:=⟨_,rfl⟩
  have hra:=Hra.out.keeps hs.kp (by simp)
  have hrb:=Hrb.out.keeps hs.kp (by simp)
  rw [←Hab.out] at hrb
  have hra':=hra
  have hrb':=hrb
  obtain⟨ada,ca,rfl,hca,_⟩:=hra'
  obtain⟨adb,cb,rfl,hcb,_⟩:=hrb'
  rw [hn] at hra hrb a3 b3 hca hcb hk hl hs
  by_cases hkn:k<n
  ·obtain⟨x,hx⟩:=Av (L:=a.lines) (k:=k) (by omega)
   obtain⟨y,hy⟩:=Av (L:=b.lines) (k:=k) (by rw [←Hab.out];omega)
   obtain⟨g,o,c,he,hc⟩:=hra.elem Ln.Am hx (by decide)
   obtain⟨g',o',c',he',hc'⟩:=hrb.elem Ln.Am hy (by decide)
   simp only [Value.slice.injEq,true_and] at he he'
   obtain⟨rfl,rfl⟩:=he
   obtain⟨rfl,rfl⟩:=he'
   have bx:=numbersB_ln Hna.out hx
   have bY:=numbersB_ln Hnb.out hy
   have hlin:Cg seq a.cycle a.lines b.lines (k+1)=Cg seq a.cycle a.lines b.lines k++lineAdj seq a.cycle k x y:=by simp only [Cg,hx,hy]
   obtain⟨xb,xi,xr⟩:=x
   obtain⟨yb,yi,yr⟩:=y
   obtain⟨⟨xb0,xb1⟩,⟨xi0,xi1⟩⟩:=bx
   obtain⟨⟨yb0,yb1⟩,⟨yi0,yi1⟩⟩:=bY
   simp only at xb0 xb1 xi0 xi1 yb0 yb1 yi0 yi1
   have x0:W.cell? ⟨g,o+k*3,none⟩=some (.int .i64 xb):=hc 0 (by decide)
   have x1:W.cell? ⟨g,o+k*3+1,none⟩=some (.int .i64 xi):=hc 1 (by decide)
   have x2:W.cell? ⟨g,o+k*3+2,none⟩=some (.int .i64 xr):=hc 2 (by decide)
   have y0:W.cell? ⟨g',o'+k*3,none⟩=some (.int .i64 yb):=hc' 0 (by decide)
   have y1:W.cell? ⟨g',o'+k*3+1,none⟩=some (.int .i64 yi):=hc' 1 (by decide)
   have y2:W.cell? ⟨g',o'+k*3+2,none⟩=some (.int .i64 yr):=hc' 2 (by decide)
   have hkI:(k:Int)<(n:Int):=by omega
   have hk0:(0:Int)≤(k:Int):=by omega
   clear hc hc'
   obtain⟨Hs,Hra,Hrb,Hx,Hy,Hlin,Hn⟩:=hid7 hs hra hrb hx hy hlin hn;clear hn hlin hy hx hrb hra hs
   go_upto_region 5 with(fail)
   go_cut [10,11] (fun s10 s11 wx=>∃X Y,s10=(.pointer (some ⟨X,0,none⟩))∧s11=(.pointer (some ⟨Y,0,none⟩))∧Hid (wx.heap[X]?=some (.cells #[.int .i64 xb,.int .i64 xi,.int .i64 xr] 102 (0,0)))∧Hid (wx.heap[Y]?=some (.cells #[.int .i64 yb,.int .i64 yi,.int .i64 yr] 102 (0,0)))∧Hid (OneS w wx seq a b (.slice (some ⟨g,o,none⟩) n ca) (.slice (some ⟨g',o',none⟩) n cb) W0 v k))
   case first=>
    refine Ao (onL w.heap.size g o g' o' k n ca cb xb xi xr yb yi yr) (.take 0 (.take 1 (.take 2 (.take 3 (.take 4 (.take 5 (.take 6 (.take 7 (.take 8 (.take 9 (.fork 10 (.move 11 (.move 12 (.move 13 .done))) 11 (.move 10 (.move 12 (.move 13 .done)))))))))))))) (by kernel_rfl) (by kernel_rfl) ?_ ?_
    ·refine⟨?_, ?_, ?_, ?_, ?_, ?_, ?_, ?_⟩<;>go_simp
    intro w3 hs3 hk3
    have HS3:=Lib.hid hs3;clear hs3
    have Hk3:=Lib.hid hk3;clear hk3
    repeat ((first|refine Ai rfl (by rfl) ?_|refine Af rfl (by rfl) ?_|(refine Ah (v:= ?_) rfl (by rfl) ?_ ?_;rotate_left;(· intro w' hSw;unfold onL at hSw;go_simp;(try with_reducible rfl));rotate_right));try simp only [aps])
    refine Cv ?_ ?_ HS3.out
    ·
     refine Ak rfl (fun K hK=> ?_)
     go_simp
     refine hK.out _ _ (by exact HS3.out.keep (Keeps.alloc _ _)) ?_
     clear hK K
     try simp only [aps]
     refine Ak rfl (fun K hK=> ?_)
     go_simp
     refine hK.out _ _ (by exact(HS3.out.keep (Keeps.alloc _ _)).keep (Keeps.alloc _ _)) ?_
     clear hK K
     try simp only [aps]
     refine Ak rfl (fun K hK=> ?_)
     go_simp
     refine hK.out _ _ (by exact(HS3.out.keep (Keeps.alloc _ _)).keep (Keeps.alloc _ _)) ?_
     clear hK K
     try simp only [aps]
     refine Ak rfl (fun K hK=> ?_)
     go_simp
     refine hK.out _ _ (by exact(HS3.out.keep (Keeps.alloc _ _)).keep (Keeps.alloc _ _)) ?_
     clear hK K
     try simp only [aps]
     refine Aw ?_
     go_wp2_with fail
     go_meet
     exact⟨_,_,rfl,rfl,Lib.hid (Au (heap_alloc_new _ _) _),Lib.hid (heap_alloc_at _ _ (by simp)),Lib.hid (((Hs.out.keep Hk3.out).keep (Keeps.alloc _ _)).keep (Keeps.alloc _ _))⟩
    ·
     refine Ak rfl (fun K hK=> ?_)
     go_simp
     refine hK.out _ _ (by exact HS3.out.keep (Keeps.alloc _ _)) ?_
     clear hK K
     try simp only [aps]
     refine Ak rfl (fun K hK=> ?_)
     go_simp
     refine hK.out _ _ (by exact(HS3.out.keep (Keeps.alloc _ _)).keep (Keeps.alloc _ _)) ?_
     clear hK K
     try simp only [aps]
     refine Ak rfl (fun K hK=> ?_)
     go_simp
     refine hK.out _ _ (by exact(HS3.out.keep (Keeps.alloc _ _)).keep (Keeps.alloc _ _)) ?_
     clear hK K
     try simp only [aps]
     refine Ak rfl (fun K hK=> ?_)
     go_simp
     refine hK.out _ _ (by exact(HS3.out.keep (Keeps.alloc _ _)).keep (Keeps.alloc _ _)) ?_
     clear hK K
     try simp only [aps]
     refine Aw ?_
     go_wp2_with fail
     go_meet
     exact⟨_,_,rfl,rfl,Lib.hid (heap_alloc_at _ _ (by simp)),Lib.hid (Au (heap_alloc_new _ _) _),Lib.hid (((Hs.out.keep Hk3.out).keep (Keeps.alloc _ _)).keep (Keeps.alloc _ _))⟩
   case rest=>
    obtain⟨X,Y,rfl,rfl,HX,HY,Hs5⟩:=hcut
    have c0:=Aa HX.out 0
    have c1:=Aa HX.out 1
    have d0:=Aa HY.out 0
    have d1:=Aa HY.out 1
    have a0':World.cell? _ (⟨w.heap.size,0,none⟩:Addr)=some (.int .i64 a.cycle):=Aa Hs5.out.ba 0
    have q0:IntKind.i64.wrap (yb-xb)=yb-xb:=IntWalk.i64_in _ (by omega)
    have q1:IntKind.i64.wrap (yi-xi)=yi-xi:=IntWalk.i64_in _ (by omega)
    have q2:IntKind.i64.wrap ((k:Int)+1)=(k:Int)+1:=IntWalk.i64_in _ (by omega)
    clear a0 a3 b3 x0 x1 x2 y0 y1 y2 xb0 xb1 xi0 xi1 yb0 yb1 yi0 yi1
    have hlo:(Cg seq a.cycle a.lines b.lines k).length≤k:=linesAdj_le _ _ _ _ _
    by_cases e0:xb=yb
    ·by_cases e1:xi=yi
     ·subst e0 e1
      have hsame:OneS w wc seq a b (.slice (some ⟨g,o,none⟩) n ca) (.slice (some ⟨g',o',none⟩) n cb) W0 v (k+1):=by
       have h5:=Hs5.out
       refine⟨h5.ba,h5.bb,h5.bw,h5.w0, ?_,h5.kp,h5.nw⟩
       have e:lineAdj seq a.cycle k ⟨xb,xi,xr⟩ ⟨xb,xi,yr⟩= []:=by simp [lineAdj]
       rw [Hlin.out,e,List.append_nil]
       exact h5.row
      obtain⟨Hsame,Hlo⟩:=hid2 hsame hlo;clear hlo hsame
      go_wp2_with fail
      go_step3
      go_wp2
      exact Az ⟨oneJ.mk W0 v (k+1) rfl (by rw [Hn.out];exact Hsame.out) (by rw [Hn.out];omega),by rw [Hn.out];simp [slotNat];omega⟩
     ·subst e0
      have q3:xb-xb=0:=Int.sub_self xb
      have e1':(xi==yi)=false:=beq_eq_false_iff_ne.2 e1
      have hne:lineAdj seq a.cycle k ⟨xb,xi,xr⟩ ⟨xb,yi,yr⟩= [⟨seq,a.cycle,(k:Int)+1,xb-xb,yi-xi,0,0,0,0⟩]:=by
       unfold lineAdj;rw [if_neg (by first|exact fun h=>e0 h.1|exact fun h=>e1 h.2)]
      exact jZ17
    ·have e0':(xb==yb)=false:=beq_eq_false_iff_ne.2 e0
     have hne:lineAdj seq a.cycle k ⟨xb,xi,xr⟩ ⟨yb,yi,yr⟩= [⟨seq,a.cycle,(k:Int)+1,yb-xb,yi-xi,0,0,0,0⟩]:=by
      unfold lineAdj;rw [if_neg (by first|exact fun h=>e0 h.1|exact fun h=>e1 h.2)]
     exact jZ17
  ·obtain rfl:k=n:=by omega
   have c0:W.cell? ⟨W0,0,none⟩=some (.int .i64 seq):=Aa hs.bw 0
   have c1:W.cell? ⟨W0,1,none⟩=some (.int .i64 a.cycle):=Aa hs.bw 1
   have c2:W.cell? ⟨W0,2,none⟩=some (.int .i64 0):=Aa hs.bw 2
   have c3:W.cell? ⟨W0,3,none⟩=some (.int .i64 0):=Aa hs.bw 3
   have c4:W.cell? ⟨W0,4,none⟩=some (.int .i64 0):=Aa hs.bw 4
   have c5:W.cell? ⟨W0,5,none⟩=some (.int .i64 (b.total-a.total)):=Aa hs.bw 5
   have c6:W.cell? ⟨W0,6,none⟩=some (.int .i64 (b.credit-a.credit)):=Aa hs.bw 6
   have c7:W.cell? ⟨W0,7,none⟩=some (.int .i64 (b.min-a.min)):=Aa hs.bw 7
   have c8:W.cell? ⟨W0,8,none⟩=some (.int .i64 (turnedI a.grace b.grace)):=Aa hs.bw 8
   have hws:=wholeSame_iff a b
   have hend:oneAdj seq a b=Cg seq a.cycle a.lines b.lines k++if wholeSame a b then [] else [wholeAdj seq a b]:=by unfold oneAdj;rw [hn]
   have hwa:wholeAdj seq a b=⟨seq,a.cycle,0,0,0,b.total-a.total,b.credit-a.credit,b.min-a.min,turnedI a.grace b.grace⟩:=rfl
   obtain⟨dt,hdt⟩:∃d,b.total-a.total=d:=⟨_,rfl⟩
   obtain⟨dc,hdc⟩:∃d,b.credit-a.credit=d:=⟨_,rfl⟩
   obtain⟨dm,hdm⟩:∃d,b.min-a.min=d:=⟨_,rfl⟩
   obtain⟨dg,hdg⟩:∃d,turnedI a.grace b.grace=d:=⟨_,rfl⟩
   rw [hdt,hdc,hdm,hdg] at hws hwa
   rw [hdt] at c5;rw [hdc] at c6;rw [hdm] at c7;rw [hdg] at c8
   rw [hwa] at hend
   have hlo:(Cg seq a.cycle a.lines b.lines k).length≤k:=linesAdj_le _ _ _ _ _
   have hrow:=hs.row
   obtain⟨m,hm⟩:∃m,(Cg seq a.cycle a.lines b.lines k).length=m:=⟨_,rfl⟩
   obtain⟨adv,cv,rfl,_,_⟩:=Aj hrow
   rw [hm] at hlo hrow hs⊢
   clear w0 w1 w2 hdt hdc hdm hdg hwa
   by_cases z1:dt=0
   ·by_cases z2:dc=0
    ·by_cases z3:dm=0
     ·by_cases z4:dg=0
      ·subst z1 z2 z3 z4
       rw [if_pos (hws.2 ⟨rfl,rfl,rfl,rfl⟩),List.append_nil] at hend
       obtain⟨Hs,Hra,Hrb,Hn,Hws,Hend,Hm,Hrow⟩:=hid8 hs hra hrb hn hws hend hm hrow;clear hrow hm hend hws hn hrb hra hs
       go_wp2_with fail
       refine Bl ?_
       go_ret
       exact⟨_,rfl,by rw [Hend.out,Hm.out];exact Hrow.out,Hs.out.kp,fun g hg=>by have:=Hs.out.nw g hg;have:=Hs.out.w0;omega⟩
      ·subst z1 z2 z3
       rw [if_neg (fun h=>z4 (hws.1 h).2.2.2)] at hend
       exact jZ5
     ·subst z1 z2
      rw [if_neg (fun h=>z3 (hws.1 h).2.2.1)] at hend
      exact jZ5
    ·subst z1
     rw [if_neg (fun h=>z2 (hws.1 h).2.1)] at hend
     exact jZ5
   ·rw [if_neg (fun h=>z1 (hws.1 h).1)] at hend
    exact jZ5
 ·intro hfirst
  have Hfirst:=Lib.hid hfirst;clear hfirst
  go_upto_region 3 with(fail)
  go_cut [9] (fun s9 wx=>∃W0,s9=(.pointer (some ⟨W0,0,none⟩))∧Hid (OneS w wx seq a b va vb W0 (.slice none 0 0) 0))
  case first=>
   refine Ao (onS w a b) (.take 0 (.take 1 (.take 2 (.take 3 (.take 4 (.take 5 (.take 6 (.take 7 (.take 8 (.take 9 (.take 10 (.take 11 (.take 12 (.take 13 (.take 14 (.take 15 (.take 16 (.take 17 (.take 18 (.take 19 (.take 20 (.take 21 (.take 22 (.take 23 (.move 24 (.move 25 .done)))))))))))))))))))))))))) (by kernel_rfl) (by kernel_rfl) ?_ ?_
   ·refine⟨?_, ?_, ?_, ?_, ?_, ?_, ?_, ?_, ?_⟩<;>go_simp
   intro w3 hs3 hk3
   have HS3:=Lib.hid hs3
   unfold onS at hs3
   have Hk3:=Lib.hid hk3;clear hk3
   repeat ((first|refine Ai rfl (by rfl) ?_|refine Af rfl (by rfl) ?_|(refine Ah (v:= ?_) rfl (by rfl) ?_ ?_;rotate_left;(· intro w' hSw;unfold onS at hSw;go_simp;(try with_reducible rfl));rotate_right));try simp only [aps])
   refine mix_pure (v:= ?_) rfl (by rfl) ?_ ?_ ?_ ?_ ?_
   rotate_left 3
   ·intro w' hSw;unfold onS at hSw;go_simp;(first|done|(constructor<;>with_reducible rfl)|with_reducible rfl)
   ·intro w' hSw;exact(adjTurned_any _ _ _)
   rotate_right 3
   try simp only [aps]
   repeat ((first|refine Ai rfl (by rfl) ?_|refine Af rfl (by rfl) ?_|(refine Ah (v:= ?_) rfl (by rfl) ?_ ?_;rotate_left;(· intro w' hSw;unfold onS at hSw;go_simp;(try with_reducible rfl));rotate_right));try simp only [aps])
   refine Ak rfl (fun K hK=> ?_)
   go_simp
   refine hK.out _ _ (by exact HS3.out.keep (Keeps.alloc _ _)) ?_
   clear hK K
   try simp only [aps]
   refine Ak rfl (fun K hK=> ?_)
   go_simp
   refine hK.out _ _ (by exact HS3.out.keep (Keeps.alloc _ _)) ?_
   clear hK K
   try simp only [aps]
   refine Aw ?_
   go_wp2_with fail
   go_meet
   refine⟨_,rfl,Lib.hid ⟨Au (Ad Hba2.out Hk3.out (by simp)) _,Au (Ad Hbb.out Hk3.out (by simp)) _,heap_alloc_new _ _, ?_,World.ownsRow_nil _ _ _ _, ?_,by simp [Value.ownBlock]⟩⟩
   ·have:=Hk3.out.size;simp at this;omega
   ·exact(Keeps.Bn (by(repeat (first|exact Keeps.refl _ _|exact Keeps.alloc _ _|exact Keeps.drew _|exact Keeps.drewN _ _|refine Keeps.Ap ?_|refine Keeps.Al ?_|refine Keeps.Ae ?_))) Hk3.out).Bn (Keeps.alloc _ _)
  case rest=>
   obtain⟨W0,rfl,hs⟩:=hcut
   go_wp2_with fail
   go_step3
   rename_i hK
   refine hK _ _ ?_
   refine Hfirst.out _ _ ?_
   exact(oneJ.mk W0 (.slice none 0 0) 0 rfl hs.out (Nat.zero_le _))
def betRec(seq:Int):List SV→List SV→List Adj→Int×List Adj
 |a::A,b::B,acc=>if a.s.Cf&&b.s.Cf then betRec seq A B (acc++oneAdj seq a.s b.s) else(5, [])
 |_,_,acc=>(0,acc)
def Betw(seq:Int)(L M:List SV)(r:Int×List Adj):Prop:=((L.length=M.length∧AlikeS L M L.length)∧r=betRec seq L M [])∨(¬(L.length=M.length∧AlikeS L M L.length)∧r=(1, []))
def BetPost(w:World)(r:Int×List Adj)(e:Ending)(w':World):Prop:=
 ∃v,e= .returned (.tuple #[v,.int .i64 r.1])∧w'.ownsRow 0 70 9 v r.2.length (r.2.flatMap Adj.cells)∧Fresh w w' v
def SVs(w:World)(L:List SV):Prop:=∀x∈L,Reads w 3 x.v x.s.lines.length (x.s.lines.flatMap Ln.cells)∧x.s.lines.length≤1000
theorem SVs.keep{w w':World}{L:List SV}(h:SVs w L)(hk:Keeps (fun _=>False) w w'):SVs w' L:=fun x hx=>⟨(h x hx).1.keeps hk (by simp),(h x hx).2⟩
theorem oneAdj_le(seq:Int)(a b:Stm):(oneAdj seq a b).length≤a.lines.length+1:=by
 unfold oneAdj
 have:=linesAdj_le seq a.cycle a.lines b.lines a.lines.length
 simp only [List.length_append]
 split<;>simp<;>omega
theorem Dj(s:Stm)(v:Value)(w:World){r:Bool}(hr:Reads w 3 v s.lines.length (s.lines.flatMap Ln.cells))(hl:s.lines.length≤1000)(he:s.Cf=r):
  Calls Tryz.prog 116 #[.agg #[.int .i64 s.cycle,.int .i64 s.fr,.int .i64 s.te,.int .i64 s.due,v,.int .i64 s.total,.int .i64 s.credit,.int .i64 s.min,.bool s.grace]] w fun e w'=>e= .returned (.bool r)∧Keeps (fun _=>False) w w':=by
 have hr':=hr
 obtain⟨ad,c,rfl,_⟩:=hr'
 subst he
 exact adjNumbers_any s ad c w hr (by omega)
theorem adjOne_at(seq:Int)(a b:Stm)(va vb:Value)(w:World)(hra:Reads w 3 va a.lines.length (a.lines.flatMap Ln.cells))(hrb:Reads w 3 vb b.lines.length (b.lines.flatMap Ln.cells))(hab:a.lines.length=b.lines.length)(hl:a.lines.length≤1000)
  (hna:a.Cf=true) (hnb:b.Cf=true):
  Calls Tryz.prog 117 #[.int .i64 seq,.agg #[.int .i64 a.cycle,.int .i64 a.fr,.int .i64 a.te,.int .i64 a.due,va,.int .i64 a.total,.int .i64 a.credit,.int .i64 a.min,.bool a.grace],.agg #[.int .i64 b.cycle,.int .i64 b.fr,.int .i64 b.te,.int .i64 b.due,vb,.int .i64 b.total,.int .i64 b.credit,.int .i64 b.min,.bool b.grace]] w (OnePost w seq a b):=
 adjOne_any seq a b va vb w hra hrb hab (by omega) hna hnb
theorem drop_cons{α:Type}{L:List α}{k:Nat}{x:α}(h:L[k]?=some x):L.drop k=x::L.drop (k+1):=by
 have hk:=Ck h
 rw [List.drop_eq_getElem_cons hk]
 rw [List.getElem?_eq_getElem hk] at h
 rw [Option.some.inj h]
def bwS(A g o k:Nat)(x y:Stm)(vx vy:Value)(w':World):Prop:=
 w'.cell? ⟨A,0,none⟩=some (.int .i64 x.cycle)∧w'.cell? ⟨A,1,none⟩=some (.int .i64 x.fr)∧w'.cell? ⟨A,2,none⟩=some (.int .i64 x.te)∧w'.cell? ⟨A,3,none⟩=some (.int .i64 x.due)∧w'.cell? ⟨A,4,none⟩=some (vx)∧w'.cell? ⟨A,5,none⟩=some (.int .i64 x.total)∧w'.cell? ⟨A,6,none⟩=some (.int .i64 x.credit)∧w'.cell? ⟨A,7,none⟩=some (.int .i64 x.min)∧w'.cell? ⟨A,8,none⟩=some (.bool x.grace)∧w'.cell? ⟨g,o+k*9,none⟩=some (.int .i64 y.cycle)∧w'.cell? ⟨g,o+k*9+1,none⟩=some (.int .i64 y.fr)∧w'.cell? ⟨g,o+k*9+2,none⟩=some (.int .i64 y.te)∧w'.cell? ⟨g,o+k*9+3,none⟩=some (.int .i64 y.due)∧w'.cell? ⟨g,o+k*9+4,none⟩=some (vy)∧w'.cell? ⟨g,o+k*9+5,none⟩=some (.int .i64 y.total)∧w'.cell? ⟨g,o+k*9+6,none⟩=some (.int .i64 y.credit)∧w'.cell? ⟨g,o+k*9+7,none⟩=some (.int .i64 y.min)∧w'.cell? ⟨g,o+k*9+8,none⟩=some (.bool y.grace)
theorem bwS.keep{A g o k:Nat}{x y:Stm}{vx vy:Value}{W W':World}(h:bwS A g o k x y vx vy W)(hk:Keeps (fun _=>False) W W'):bwS A g o k x y vx vy W':=by
 obtain⟨h0,h1,h2,h3,h4,h5,h6,h7,h8,h9,h10,h11,h12,h13,h14,h15,h16,h17⟩:=h
 exact⟨(hk.cell (Ag h0) (by simp)).trans h0,(hk.cell (Ag h1) (by simp)).trans h1,(hk.cell (Ag h2) (by simp)).trans h2,(hk.cell (Ag h3) (by simp)).trans h3,(hk.cell (Ag h4) (by simp)).trans h4,(hk.cell (Ag h5) (by simp)).trans h5,(hk.cell (Ag h6) (by simp)).trans h6,(hk.cell (Ag h7) (by simp)).trans h7,(hk.cell (Ag h8) (by simp)).trans h8,(hk.cell (Ag h9) (by simp)).trans h9,(hk.cell (Ag h10) (by simp)).trans h10,(hk.cell (Ag h11) (by simp)).trans h11,(hk.cell (Ag h12) (by simp)).trans h12,(hk.cell (Ag h13) (by simp)).trans h13,(hk.cell (Ag h14) (by simp)).trans h14,(hk.cell (Ag h15) (by simp)).trans h15,(hk.cell (Ag h16) (by simp)).trans h16,(hk.cell (Ag h17) (by simp)).trans h17⟩
theorem bwS.keep2{A g o k:Nat}{x y:Stm}{vx vy:Value}{W W':World}{T:Nat→Prop}(h:bwS A g o k x y vx vy W)(hk:Keeps T W W')(hA:¬T A)(hg:¬T g):bwS A g o k x y vx vy W':=by
 obtain⟨h0,h1,h2,h3,h4,h5,h6,h7,h8,h9,h10,h11,h12,h13,h14,h15,h16,h17⟩:=h
 exact⟨(hk.cell (Ag h0) hA).trans h0,(hk.cell (Ag h1) hA).trans h1,(hk.cell (Ag h2) hA).trans h2,(hk.cell (Ag h3) hA).trans h3,(hk.cell (Ag h4) hA).trans h4,(hk.cell (Ag h5) hA).trans h5,(hk.cell (Ag h6) hA).trans h6,(hk.cell (Ag h7) hA).trans h7,(hk.cell (Ag h8) hA).trans h8,(hk.cell (Ag h9) hg).trans h9,(hk.cell (Ag h10) hg).trans h10,(hk.cell (Ag h11) hg).trans h11,(hk.cell (Ag h12) hg).trans h12,(hk.cell (Ag h13) hg).trans h13,(hk.cell (Ag h14) hg).trans h14,(hk.cell (Ag h15) hg).trans h15,(hk.cell (Ag h16) hg).trans h16,(hk.cell (Ag h17) hg).trans h17⟩
theorem bw_cells{g o k:Nat}{y:Stm}{v:Value}{wr:World}(y0:wr.cell? ⟨g,o+k*9,none⟩=some (.int .i64 y.cycle))(y1:wr.cell? ⟨g,o+k*9+1,none⟩=some (.int .i64 y.fr))(y2:wr.cell? ⟨g,o+k*9+2,none⟩=some (.int .i64 y.te))(y3:wr.cell? ⟨g,o+k*9+3,none⟩=some (.int .i64 y.due))(y4:wr.cell? ⟨g,o+k*9+4,none⟩=some (v))(y5:wr.cell? ⟨g,o+k*9+5,none⟩=some (.int .i64 y.total))(y6:wr.cell? ⟨g,o+k*9+6,none⟩=some (.int .i64 y.credit))(y7:wr.cell? ⟨g,o+k*9+7,none⟩=some (.int .i64 y.min))(y8:wr.cell? ⟨g,o+k*9+8,none⟩=some (.bool y.grace)):
  ∀w',Keeps (fun _=>False) wr w'→w'.cell? ⟨g,o+k*9,none⟩=some (.int .i64 y.cycle)∧w'.cell? ⟨g,o+k*9+1,none⟩=some (.int .i64 y.fr)∧w'.cell? ⟨g,o+k*9+2,none⟩=some (.int .i64 y.te)∧w'.cell? ⟨g,o+k*9+3,none⟩=some (.int .i64 y.due)∧w'.cell? ⟨g,o+k*9+4,none⟩=some (v)∧w'.cell? ⟨g,o+k*9+5,none⟩=some (.int .i64 y.total)∧w'.cell? ⟨g,o+k*9+6,none⟩=some (.int .i64 y.credit)∧w'.cell? ⟨g,o+k*9+7,none⟩=some (.int .i64 y.min)∧w'.cell? ⟨g,o+k*9+8,none⟩=some (.bool y.grace):=fun w' hk=>⟨(hk.cell (Ag y0) (by simp)).trans y0,(hk.cell (Ag y1) (by simp)).trans y1,(hk.cell (Ag y2) (by simp)).trans y2,(hk.cell (Ag y3) (by simp)).trans y3,(hk.cell (Ag y4) (by simp)).trans y4,(hk.cell (Ag y5) (by simp)).trans y5,(hk.cell (Ag y6) (by simp)).trans y6,(hk.cell (Ag y7) (by simp)).trans y7,(hk.cell (Ag y8) (by simp)).trans y8⟩
theorem own_ltA{w:World}{base:Nat}{e:TypeId}{size:Nat}{v:Value}{n:Nat}{xs:List Value}(h:w.ownsRow base e size v n xs){g:Nat}(hv:v.ownBlock=some g):g<w.heap.size:=by
 exact jZ82
theorem adjBetween_any(seq:Int)(ad1 ad2:Option Addr)(c1 c2:Nat)(L M:List SV)(w:World)(h1:Reads w 9 (.slice ad1 L.length c1) L.length (L.flatMap SV.cells))(h2:Reads w 9 (.slice ad2 M.length c2) M.length (M.flatMap SV.cells))
  (hl:L.length≤1000) (hm:M.length≤1000) (hsl:SVs w L) (hsm:SVs w M) (r:Int×List Adj) (hB:Betw seq L M r):
  Calls Tryz.prog 94 #[.int .i64 seq,.slice ad1 L.length c1,.slice ad2 M.length c2] w (BetPost w r):=by
 obtain⟨i0,hi,hi0,hi1,hi2⟩:=info_parts info_tAdjust
 obtain⟨n,hn⟩:∃n,L.length=n:=⟨_,rfl⟩
 obtain⟨m,hm'⟩:∃m,M.length=m:=⟨_,rfl⟩
 rw [hn] at hl
 rw [hm'] at hm
 have heq:=fun W (hW:Keeps (fun _=>False) w W)=>equalStm_any ad1 ad2 c1 c2 L M W (h1.keeps hW (by simp)) (h2.keeps hW (by simp)) (by omega) (by omega)
 rw [hn] at h1
 rw [hm'] at h2
 rw [hn,hm'] at heq
 unfold Betw at hB
 rw [hn,hm'] at hB
 rw [hn,hm']
 rcases hB with⟨⟨hnm,hal⟩,hb⟩|⟨hal,hb⟩
 ·subst hnm
  obtain⟨H1,H2,Hn,Hm',Hsl,Hsm,Heq,Hal,Hi⟩:=hid9 h1 h2 hn hm' hsl hsm heq hal hi;clear hi hal heq hsm hsl hm' hn h2 h1;obtain⟨Hi0,Hi1,Hi2⟩:=hid3 hi0 hi1 hi2;clear hi2 hi1 hi0
  go_enter Tryz.func94,Tryz.ntmps94
  go_wp2_with fail
  refine(Heq.out _ (Keeps.refl _ _)).mono ?_
  rintro e w1 ⟨b,rfl,hr,hk1⟩
  obtain rfl:b=true:=hr.2 ⟨(by first|trivial|rfl),Hal.out⟩
  clear hr
  have Hk1:=Lib.hid hk1;clear hk1
  go_wp2_with fail
  go_loopw [8,17] (fun v c wr=>∃(k:Nat) (acc:List Adj) (adv:Option Addr) (cv:Nat),k≤n∧c= .int .i64 (k:Nat)∧v= .slice adv acc.length cv∧wr.ownsRow 0 70 9 (.slice adv acc.length cv) acc.length (acc.flatMap Adj.cells)∧Fresh w wr (.slice adv acc.length cv)∧acc.length≤k*1001∧betRec seq L M []=betRec seq (L.drop k) (M.drop k) acc) (fun _ c _=>n-(intOf c).toNat)
  case atStart=>exact⟨0, [],none,0,Nat.zero_le _,rfl,rfl,World.ownsRow_nil _ _ _ _,⟨Hk1.out,by simp [Value.ownBlock]⟩,Nat.zero_le _,rfl⟩
  case round=>
   obtain⟨k,acc,adv,cv,hkn,rfl,rfl,hrow,hfr,hac,hbet⟩:=hrel
   obtain⟨q,hq⟩:∃q,acc.length=q:=⟨_,rfl⟩
   rw [hq] at hrow hfr hac⊢
   by_cases hlt:k<n
   ·obtain⟨x,hx⟩:=Av (L:=L) (k:=k) (by rw [Hn.out];exact hlt)
    obtain⟨y,hy⟩:=Av (L:=M) (k:=k) (by rw [Hm'.out];exact hlt)
    obtain⟨g,o,c,he,hc⟩:=(H1.out.keeps hfr.1 (by simp)).elem SV.Am hx (by decide)
    obtain⟨g',o',c',he',hc'⟩:=(H2.out.keeps hfr.1 (by simp)).elem SV.Am hy (by decide)
    simp only [Value.slice.injEq,true_and] at he he'
    obtain⟨rfl,rfl⟩:=he
    obtain⟨rfl,rfl⟩:=he'
    have x0:wr.cell? ⟨g,o+k*9,none⟩=some (.int .i64 x.s.cycle):=hc 0 (by decide)
    have x1:wr.cell? ⟨g,o+k*9+1,none⟩=some (.int .i64 x.s.fr):=hc 1 (by decide)
    have x2:wr.cell? ⟨g,o+k*9+2,none⟩=some (.int .i64 x.s.te):=hc 2 (by decide)
    have x3:wr.cell? ⟨g,o+k*9+3,none⟩=some (.int .i64 x.s.due):=hc 3 (by decide)
    have x4:wr.cell? ⟨g,o+k*9+4,none⟩=some x.v:=hc 4 (by decide)
    have x5:wr.cell? ⟨g,o+k*9+5,none⟩=some (.int .i64 x.s.total):=hc 5 (by decide)
    have x6:wr.cell? ⟨g,o+k*9+6,none⟩=some (.int .i64 x.s.credit):=hc 6 (by decide)
    have x7:wr.cell? ⟨g,o+k*9+7,none⟩=some (.int .i64 x.s.min):=hc 7 (by decide)
    have x8:wr.cell? ⟨g,o+k*9+8,none⟩=some (.bool x.s.grace):=hc 8 (by decide)
    have y0:wr.cell? ⟨g',o'+k*9,none⟩=some (.int .i64 y.s.cycle):=hc' 0 (by decide)
    have y1:wr.cell? ⟨g',o'+k*9+1,none⟩=some (.int .i64 y.s.fr):=hc' 1 (by decide)
    have y2:wr.cell? ⟨g',o'+k*9+2,none⟩=some (.int .i64 y.s.te):=hc' 2 (by decide)
    have y3:wr.cell? ⟨g',o'+k*9+3,none⟩=some (.int .i64 y.s.due):=hc' 3 (by decide)
    have y4:wr.cell? ⟨g',o'+k*9+4,none⟩=some y.v:=hc' 4 (by decide)
    have y5:wr.cell? ⟨g',o'+k*9+5,none⟩=some (.int .i64 y.s.total):=hc' 5 (by decide)
    have y6:wr.cell? ⟨g',o'+k*9+6,none⟩=some (.int .i64 y.s.credit):=hc' 6 (by decide)
    have y7:wr.cell? ⟨g',o'+k*9+7,none⟩=some (.int .i64 y.s.min):=hc' 7 (by decide)
    have y8:wr.cell? ⟨g',o'+k*9+8,none⟩=some (.bool y.s.grace):=hc' 8 (by decide)
    have hgl:=Ag x0
    have hgl':=Ag y0
    clear hc hc'
    have hsx:=Hsl.out x (List.mem_of_getElem? hx)
    have hsy:=Hsm.out y (List.mem_of_getElem? hy)
    have hab:=Hal.out k x y hlt hx hy
    have hdL:L.drop k=x::L.drop (k+1):=drop_cons hx
    have hdM:M.drop k=y::M.drop (k+1):=drop_cons hy
    rw [hdL,hdM] at hbet
    have hstep:betRec seq (x::L.drop (k+1)) (y::M.drop (k+1)) acc=if x.s.Cf&&y.s.Cf then betRec seq (L.drop (k+1)) (M.drop (k+1)) (acc++oneAdj seq x.s y.s) else(5, []):=rfl
    rw [hstep] at hbet
    have hRx:=(hsx.1.keeps hfr.1 (by simp))
    have hRy:=(hsy.1.keeps hfr.1 (by simp))
    have hlx:=hsx.2
    have hly:=hsy.2
    have hxy:x.s.lines.length=y.s.lines.length:=by
     simp only [alikeB,Bool.and_eq_true,decide_eq_true_eq] at hab;exact hab.2
    clear hsx hsy hab hstep hdL hdM
    have hkI:(k:Int)<(n:Int):=by omega
    obtain⟨xs,adx,cx⟩:=x
    obtain⟨ys,ady,cy⟩:=y
    simp only [SV.v] at x4 y4 hRx hRy hbet hlx hly hxy
    obtain⟨lx,hlx'⟩:∃l,xs.lines.length=l:=⟨_,rfl⟩
    rcases nx:xs.Cf with _|_
    ·rw [nx] at hbet
     have hbet':r=(5, []):=by rw [hb];exact hbet
     subst hbet'
     obtain⟨Hx,Hy,Hrow,Hfr,Hq,Hbet,HRx,HRy,Nx⟩:=hid9 hx hy hrow hfr hq hbet hRx hRy nx;clear nx hRy hRx hbet hq hfr hrow hy hx;obtain⟨Hxy,Hb,Hlx'⟩:=hid3 hxy hb hlx';clear hlx' hb hxy
     go_wp2_with (go_at_call 116;((with_reducible refine(Dj xs _ _ (HRx.out.keeps (S:=fun _=>False) (by(repeat (first|exact Keeps.refl _ _|exact Keeps.alloc _ _|exact Keeps.drew _|exact Keeps.drewN _ _|refine Keeps.Ap ?_|refine Keeps.Al ?_|refine Keeps.Ae ?_))) (by simp)) hlx Nx.out).mono ?_);rintro e w3 ⟨rfl,hk3⟩;have Hk3:=Lib.hid hk3;clear hk3))
     go_ret2
     exact⟨_,rfl,World.ownsRow_nil _ _ _ _,(Hfr.out.1.Bn (by(repeat (first|exact Keeps.refl _ _|exact Keeps.alloc _ _|exact Keeps.drew _|exact Keeps.drewN _ _|refine Keeps.Ap ?_|refine Keeps.Al ?_|refine Keeps.Ae ?_)))).Bn Hk3.out,by simp [Value.ownBlock]⟩
    ·rcases ny:ys.Cf with _|_
     ·rw [nx,ny] at hbet
      have hbet':r=(5, []):=by rw [hb];exact hbet
      subst hbet'
      have hyc:=bw_cells y0 y1 y2 y3 y4 y5 y6 y7 y8
      obtain⟨Hx,Hy,Hrow,Hfr,Hq,Hbet,HRx,HRy,Nx⟩:=hid9 hx hy hrow hfr hq hbet hRx hRy nx;clear nx hRy hRx hbet hq hfr hrow hy hx;obtain⟨Ny,Hxy,Hb,Hlx',Hyc⟩:=hid5 ny hxy hb hlx' hyc;clear hyc hlx' hb hxy ny
      go_wp2_with (go_at_call 116;((with_reducible refine(Dj xs _ _ (HRx.out.keeps (S:=fun _=>False) (by(repeat (first|exact Keeps.refl _ _|exact Keeps.alloc _ _|exact Keeps.drew _|exact Keeps.drewN _ _|refine Keeps.Ap ?_|refine Keeps.Al ?_|refine Keeps.Ae ?_))) (by simp)) hlx Nx.out).mono ?_);rintro e w3 ⟨rfl,hk3⟩;have Hk3:=Lib.hid hk3;clear hk3;obtain⟨z0,z1,z2,z3,z4,z5,z6,z7,z8⟩:=Hyc.out _ (Keeps.Bn (by(repeat (first|exact Keeps.refl _ _|exact Keeps.alloc _ _|exact Keeps.drew _|exact Keeps.drewN _ _|refine Keeps.Ap ?_|refine Keeps.Al ?_|refine Keeps.Ae ?_))) Hk3.out)))
      go_wp2_with (go_at_call 116;((with_reducible refine(Dj ys _ _ (HRy.out.keeps (S:=fun _=>False) (Keeps.Bn (by(repeat (first|exact Keeps.refl _ _|exact Keeps.alloc _ _|exact Keeps.drew _|exact Keeps.drewN _ _|refine Keeps.Ap ?_|refine Keeps.Al ?_|refine Keeps.Ae ?_))) Hk3.out) (by simp)) hly Ny.out).mono ?_);rintro e w4 ⟨rfl,hk4⟩;have Hk4:=Lib.hid hk4;clear hk4))
      go_ret2
      exact⟨_,rfl,World.ownsRow_nil _ _ _ _,((Hfr.out.1.Bn (by(repeat (first|exact Keeps.refl _ _|exact Keeps.alloc _ _|exact Keeps.drew _|exact Keeps.drewN _ _|refine Keeps.Ap ?_|refine Keeps.Al ?_|refine Keeps.Ae ?_)))).Bn Hk3.out).Bn Hk4.out,by simp [Value.ownBlock]⟩
     ·rw [nx,ny] at hbet
      have hbet':r=betRec seq (L.drop (k+1)) (M.drop (k+1)) (acc++oneAdj seq xs ys):=by rw [hb];exact hbet
      have hyc:=bw_cells y0 y1 y2 y3 y4 y5 y6 y7 y8
      have hbox:=heap_alloc_new wr (.cells #[.int .i64 xs.cycle,.int .i64 xs.fr,.int .i64 xs.te,.int .i64 xs.due,.slice adx xs.lines.length cx,.int .i64 xs.total,.int .i64 xs.credit,.int .i64 xs.min,.bool xs.grace] 42)
      have hown0:∀i,(Value.slice adv q cv).ownBlock=some i→i<wr.heap.size∧w.heap.size≤i:=fun i e=>⟨own_ltA hrow e,hfr.2 i e⟩
      have hg0:g'<w.heap.size:=by
       obtain⟨i,e,hi⟩:=H2.out.lt (by intro e;have:=Dl SV.Am M;rw [e,Hm'.out] at this;simp at this;omega)
       simp only [Value.ownBlock,Option.some.injEq] at e;omega
      obtain⟨Hx,Hy,Hrow,Hfr,Hq,Hbet,Hbet',HRx,HRy⟩:=hid9 hx hy hrow hfr hq hbet hbet' hRx hRy;clear hRy hRx hbet' hbet hq hfr hrow hy hx;obtain⟨Nx,Ny,Hxy,Hb,Hlx',Hyc,Hbox,Hown0⟩:=hid8 nx ny hxy hb hlx' hyc hbox hown0;clear hown0 hbox hyc hlx' hb hxy ny nx
      go_wp2_with (go_at_call 116;((with_reducible refine(Dj xs _ _ (HRx.out.keeps (S:=fun _=>False) (by(repeat (first|exact Keeps.refl _ _|exact Keeps.alloc _ _|exact Keeps.drew _|exact Keeps.drewN _ _|refine Keeps.Ap ?_|refine Keeps.Al ?_|refine Keeps.Ae ?_))) (by simp)) hlx Nx.out).mono ?_);rintro e w3 ⟨rfl,hk3⟩;have Hk3:=Lib.hid hk3;clear hk3;obtain⟨z0,z1,z2,z3,z4,z5,z6,z7,z8⟩:=Hyc.out _ (Keeps.Bn (by(repeat (first|exact Keeps.refl _ _|exact Keeps.alloc _ _|exact Keeps.drew _|exact Keeps.drewN _ _|refine Keeps.Ap ?_|refine Keeps.Al ?_|refine Keeps.Ae ?_))) Hk3.out)))
      go_wp2_with (go_at_call 116;((with_reducible refine(Dj ys _ _ (HRy.out.keeps (S:=fun _=>False) (Keeps.Bn (by(repeat (first|exact Keeps.refl _ _|exact Keeps.alloc _ _|exact Keeps.drew _|exact Keeps.drewN _ _|refine Keeps.Ap ?_|refine Keeps.Al ?_|refine Keeps.Ae ?_))) Hk3.out) (by simp)) hly Ny.out).mono ?_);rintro e w4 ⟨rfl,hk4⟩;have Hk4:=Lib.hid hk4;clear hk4))
      have hkA:Keeps (fun _=>False) wr w4:=(Keeps.Bn (by(repeat (first|exact Keeps.refl _ _|exact Keeps.alloc _ _|exact Keeps.drew _|exact Keeps.drewN _ _|refine Keeps.Ap ?_|refine Keeps.Al ?_|refine Keeps.Ae ?_))) Hk3.out).Bn Hk4.out
      have hs4:bwS wr.heap.size g' o' k xs ys (.slice adx xs.lines.length cx) (.slice ady ys.lines.length cy) w4:=by
       have hb4:=Ad (Ad Hbox.out Hk3.out (by simp)) Hk4.out (by simp)
       obtain⟨t0,t1,t2,t3,t4,t5,t6,t7,t8⟩:=Hyc.out _ hkA
       exact⟨Aa hb4 0,Aa hb4 1,Aa hb4 2,Aa hb4 3,Aa hb4 4,Aa hb4 5,Aa hb4 6,Aa hb4 7,Aa hb4 8,t0,t1,t2,t3,t4,t5,t6,t7,t8⟩
      obtain⟨HkA,Hs4⟩:=hid2 hkA hs4;clear hs4 hkA
      clear z0 z1 z2 z3 z4 z5 z6 z7 z8 y0 y1 y2 y3 y4 y5 y6 y7 y8 x0 x1 x2 x3 x4 x5 x6 x7 x8
      refine Ao (bwS wr.heap.size g' o' k xs ys (.slice adx xs.lines.length cx) (.slice ady ys.lines.length cy)) (.take 0 (.take 1 (.take 2 (.take 3 (.take 4 (.take 5 (.take 6 (.move 7 (.move 8 (.take 9 .done)))))))))) (by kernel_rfl) (by kernel_rfl) ?_ ?_
      ·exact Hs4.out.keep (Keeps.drew _)
      intro w5 hs5 hk5
      have hkB:Keeps (fun _=>False) wr w5:=HkA.out.Bn hk5
      obtain⟨Hs5,HkB⟩:=hid2 hs5 hkB;clear hkB hs5
      clear hk5
      repeat ((first|refine Ai rfl (by rfl) ?_|refine Af rfl (by rfl) ?_|(refine Ah (v:= ?_) rfl (by rfl) ?_ ?_;rotate_left;(· intro w' hSw;unfold bwS at hSw;go_simp;(try with_reducible rfl));rotate_right));try simp only [aps])
      refine Ak rfl (fun K hK=> ?_)
      go_simp
      go_at_call 117
      ((with_reducible refine(adjOne_at seq xs ys _ _ _ (HRx.out.keeps HkB.out (by simp)) (HRy.out.keeps HkB.out (by simp)) Hxy.out hlx Nx.out Ny.out).mono ?_);rintro e w6 ⟨v6,rfl,hrow6,hfr6⟩;dsimp only)
      refine hK.out _ _ (by exact Hs5.out.keep hfr6.1) ?_
      clear hK K
      try simp only [aps]
      obtain⟨Hrow6,Hfr6⟩:=hid2 hrow6 hfr6;clear hfr6 hrow6
      repeat ((first|refine Ai rfl (by rfl) ?_|refine Af rfl (by rfl) ?_|(refine Ah (v:= ?_) rfl (by rfl) ?_ ?_;rotate_left;(· intro w' hSw;unfold bwS at hSw;go_simp;(try with_reducible rfl));rotate_right));try simp only [aps])
      have hol:=oneAdj_le seq xs ys
      obtain⟨ad6,c6,rfl,_,_⟩:=Aj Hrow6.out
      refine Ak rfl (fun K hK=> ?_)
      refine Bt rfl (.tmp 33) (.tmp 40) 66 rfl 0 70 i0 _ 9 72 Tryz.underlying66 Hi.out Hi0.out Hi1.out Hi2.out rfl (by decide) (.slice adv q cv) q _ rfl ((Hrow.out.of_keeps HkB.out).of_keeps Hfr6.out.1) _ _ _ rfl (Reads.Bh Hrow6.out) (Adj.one _) (by unfold maxLen;omega) (by omega) (Nat.zero_le _) ?_
      intro v7 w7 hown hk7 hf7
      have hk7':Keeps (fun i=>(Value.slice adv q cv).ownBlock=some i) wr w7:=(HkB.out.trans (Hfr6.out.1.mono (by simp))).mono (fun _ _ h=>h.elim)|>.trans (hk7.mono fun i _ e=> .inl e)
      refine hK.out _ _ (by exact(Hs5.out.keep Hfr6.out.1).keep2 hk7 (fun e=>by have:=(Hown0.out _ e).1;omega) (fun e=>by have:=(Hown0.out _ e).2;omega)) ?_
      clear hK K
      try simp only [aps]
      have hfr7:Fresh w w7 v7:=by
       refine⟨Hfr.out.1.trans (hk7'.mono fun i _ e=> .inr (Hown0.out i e).2),fun i e=> ?_⟩
       rcases hf7 with e'|⟨i',e',h'⟩
       ·exact(Hown0.out i (by rw [←e'];exact e)).2
       ·rw [e'] at e;simp only [Option.some.injEq] at e;have:=Hfr.out.1.size;have:=HkB.out.size;have:=Hfr6.out.1.size;omega
      obtain⟨ad7,c7,rfl,_,_⟩:=Aj hown
      have hown':w7.ownsRow 0 70 9 (.slice ad7 (acc++oneAdj seq xs ys).length c7) (acc++oneAdj seq xs ys).length ((acc++oneAdj seq xs ys).flatMap Adj.cells):=by
       simp only [List.length_append,Hq.out,List.flatMap_append];exact hown
      have hlen:(acc++oneAdj seq xs ys).length=q+(oneAdj seq xs ys).length:=by rw [List.length_append,Hq.out]
      rw [←hlen] at hfr7⊢
      obtain⟨Hfr7,Hown',Hlen⟩:=hid3 hfr7 hown' hlen;clear hlen hown' hfr7
      clear hk7' hf7 hown hk7
      repeat ((first|refine Ai rfl (by rfl) ?_|refine Af rfl (by rfl) ?_|(refine Ah (v:= ?_) rfl (by rfl) ?_ ?_;rotate_left;(· intro w' hSw;unfold bwS at hSw;go_simp;(try with_reducible rfl));rotate_right));try simp only [aps])
      refine Aw ?_
      go_wp2_with fail
      go_roundw
      case rel=>exact⟨k+1,acc++oneAdj seq xs ys,ad7,c7,by omega,by go_num,by simp,Hown'.out,Hfr7.out,by rw [Hlen.out];omega,by rw [←Hb.out];exact Hbet'.out⟩
      case measure=>simp [intOf];omega
   ·obtain rfl:k=n:=by omega
    have hr0:r=(0,acc):=by
     rw [hb,hbet,List.drop_eq_nil_of_le (by rw [Hn.out];exact Nat.le_refl _)];rfl
    subst hr0
    obtain⟨Hrow,Hfr,Hq,Hbet,Hb⟩:=hid5 hrow hfr hq hbet hb;clear hb hbet hq hfr hrow
    go_wp2_with fail
    go_ret2
    exact⟨_,rfl,by rw [Hq.out];exact Hrow.out,Hfr.out⟩
 ·subst hb
  obtain⟨H1,H2,Hn,Hm',Hsl,Hsm,Heq,Hal,Hi⟩:=hid9 h1 h2 hn hm' hsl hsm heq hal hi;clear hi hal heq hsm hsl hm' hn h2 h1;obtain⟨Hi0,Hi1,Hi2⟩:=hid3 hi0 hi1 hi2;clear hi2 hi1 hi0
  go_enter Tryz.func94,Tryz.ntmps94
  go_wp2_with fail
  refine(Heq.out _ (Keeps.refl _ _)).mono ?_
  rintro e w1 ⟨b,rfl,hr,hk1⟩
  obtain rfl:b=false:=by
   cases b with
   |false=>rfl
   |true=>exact absurd (hr.1 rfl) Hal.out
  clear hr
  have Hk1:=Lib.hid hk1;clear hk1
  go_wp2_with fail
  go_ret2
  exact⟨_,rfl,World.ownsRow_nil _ _ _ _,Hk1.out,by simp [Value.ownBlock]⟩
def aheadB(hi:Bool)(a b:Int):Bool:=if hi=true then decide (b<a) else decide (a<b)
def rt(R:List Int)(k:Int):Int:=R.getD (k-1).toNat 0
def plR(hi:Bool)(R:List Int)(r:Int)(O:List Int):Nat→Nat
 |0=>0
 |k+1=>if aheadB hi r (rt R (O.getD k 0))=true then plR hi R r O k else k+1
def insR(hi:Bool)(R:List Int)(n:Nat)(O:List Int):List Int:=O.take (plR hi R (R.getD n 0) O O.length)++ [(n:Int)+1]++O.drop (plR hi R (R.getD n 0) O O.length)
def rankN(hi:Bool)(R:List Int):Nat→List Int
 |0=> []
 |n+1=>insR hi R n (rankN hi R n)
def rankL(hi:Bool)(R:List Int):List Int:=rankN hi R R.length
theorem plR_le(hi:Bool)(R:List Int)(r:Int)(O:List Int):∀k,plR hi R r O k≤k
 |0=>Nat.le_refl _
 |k+1=>by
  unfold plR
  split
  ·exact Nat.le_succ_of_le (plR_le hi R r O k)
  ·exact Nat.le_refl _
theorem insR_length(hi:Bool)(R:List Int)(n:Nat)(O:List Int):(insR hi R n O).length=O.length+1:=by
 have:=plR_le hi R (R.getD n 0) O O.length
 simp only [insR,List.length_append,List.length_take,List.length_drop,List.length_cons,List.length_nil];omega
theorem De(hi:Bool)(R:List Int):∀n,(rankN hi R n).length=n
 |0=>rfl
 |n+1=>by unfold rankN;rw [insR_length,De hi R n]
theorem rankL_length(hi:Bool)(R:List Int):(rankL hi R).length=R.length:=De hi R _
theorem mem_insR{hi:Bool}{R:List Int}{n:Nat}{O:List Int}{x:Int}(h:x∈insR hi R n O):x∈O∨x=(n:Int)+1:=by
 unfold insR at h
 rcases List.mem_append.1 h with h|h
 ·rcases List.mem_append.1 h with h|h
  ·exact .inl (List.mem_of_mem_take h)
  ·exact .inr (List.mem_singleton.1 h)
 ·exact .inl (List.mem_of_mem_drop h)
theorem Dc{hi:Bool}{R:List Int}:∀{n:Nat} {x:Int},x∈rankN hi R n→1≤x∧x≤n
 |0,x,h=>by simp [rankN] at h
 |n+1,x,h=>by
  rcases mem_insR h with h|h
  ·have:=Dc h;omega
  ·omega
theorem rankN_nodup(hi:Bool)(R:List Int):∀n,(rankN hi R n).Nodup
 |0=>List.nodup_nil
 |n+1=>by
  have ih:=rankN_nodup hi R n
  have hm:=fun x=>Dc (hi:=hi) (R:=R) (n:=n) (x:=x)
  unfold rankN insR
  obtain⟨O,hO⟩:∃O,rankN hi R n=O:=⟨_,rfl⟩
  rw [hO] at ih hm⊢
  obtain⟨p,hp⟩:∃p,plR hi R (R.getD n 0) O O.length=p:=⟨_,rfl⟩
  rw [hp]
  rw [←List.take_append_drop p O,List.nodup_append] at ih
  obtain⟨h1,h2,h3⟩:=ih
  rw [List.append_assoc,List.nodup_append]
  refine⟨h1, ?_,fun a ha b hb=> ?_⟩
  ·show List.Nodup (_::_)
   rw [List.nodup_cons]
   exact⟨fun h=>by have:=(hm _ (List.mem_of_mem_drop h)).2;omega,h2⟩
  ·rcases List.mem_cons.1 (show b∈_::_ from hb) with rfl|hb
   ·intro e;have:=(hm _ (List.mem_of_mem_take ha)).2;omega
   ·exact h3 a ha b hb
def minI(a b:Int):Int:=if a≤b then a else b
def intoS(B:List Int):List Int→List Int×Int→List Int×Int
 | [],s=>s
 |k::O,s=>intoS B O (s.1.set (k-1).toNat (minI s.2 (B.getD (k-1).toNat 0)),s.2-minI s.2 (B.getD (k-1).toNat 0))
def intoL(B O:List Int)(a:Int):List Int×Int:=intoS B O (List.replicate B.length 0,a)
theorem intoS_length(B:List Int):∀(O:List Int) (s:List Int×Int),(intoS B O s).1.length=s.1.length
 | [],s=>rfl
 |k::O,s=>by unfold intoS;rw [intoS_length B O];simp
theorem Cj(B O:List Int)(a:Int):(intoL B O a).1.length=B.length:=by unfold intoL;rw [intoS_length];simp
def moneyP(v:Int):Bool:=decide (0≤v)&&decide (v≤1000000000000000)
theorem Bg(v:Int):moneyP v=true↔0≤v∧v≤1000000000000000:=by simp [moneyP]
theorem intoS_bd {B : List Int} (hB : ∀ x ∈ B, 0 ≤ x) : ∀ (O : List Int) (s : List Int × Int), 0 ≤ s.2 → (∀ j x, s.1[j]? = some x → 0 ≤ x ∧ x ≤ B.getD j 0) → (∀ k ∈ O, 1 ≤ k ∧ k ≤ s.1.length) → s.1.length = B.length →
    0 ≤ (intoS B O s).2 ∧ (intoS B O s).2 ≤ s.2 ∧ ∀ j x, (intoS B O s).1[j]? = some x → 0 ≤ x ∧ x ≤ B.getD j 0
  | [], s, h0, h1, _, _ => ⟨h0, Int.le_refl _, h1⟩
  | k :: O, s, h0, h1, hk, hl => by
    have hkk := hk k (List.mem_cons_self ..)
    have hb : 0 ≤ B.getD (k - 1).toNat 0 := by
      rw [List.getD_eq_getElem?_getD, List.getElem?_eq_getElem (by omega)]
      exact hB _ (List.getElem_mem _)
    have hm : 0 ≤ minI s.2 (B.getD (k - 1).toNat 0) ∧ minI s.2 (B.getD (k - 1).toNat 0) ≤ s.2 ∧ minI s.2 (B.getD (k - 1).toNat 0) ≤ B.getD (k - 1).toNat 0 := by unfold minI; split <;> omega
    unfold intoS
    obtain ⟨e1, e2, e3⟩ := intoS_bd hB O (s.1.set (k - 1).toNat (minI s.2 (B.getD (k - 1).toNat 0)), s.2 - minI s.2 (B.getD (k - 1).toNat 0)) (by show 0 ≤ _ - _; omega) (fun j x hj => by
      simp only [List.getElem?_set] at hj
      split at hj
      · rename_i he
        split at hj
        · simp only [Option.some.injEq] at hj; subst hj; subst he; exact ⟨hm.1, hm.2.2⟩
        · cases hj
      · exact h1 j x hj) (fun z hz => by have := hk z (List.mem_cons_of_mem _ hz); simpa using this) (by simpa using hl)
    exact ⟨e1, by have : (intoS B O (s.1.set (k - 1).toNat (minI s.2 (B.getD (k - 1).toNat 0)), s.2 - minI s.2 (B.getD (k - 1).toNat 0))).2 ≤ s.2 - minI s.2 (B.getD (k - 1).toNat 0) := e2
                  omega, e3⟩
theorem intoL_bd{B O:List Int}{a:Int}(hB:∀x∈B,0≤x)(ha:0≤a)(hO:∀k∈O,1≤k∧k≤B.length):0≤(intoL B O a).2∧(intoL B O a).2≤a∧∀j x,(intoL B O a).1[j]?=some x→0≤x∧x≤B.getD j 0:=by
 unfold intoL
 refine intoS_bd hB O _ ha (fun j x hj=> ?_) (fun k hk=>by have:=hO k hk;simpa using this) (by simp)
 rw [List.getElem?_replicate] at hj
 split at hj
 ·rename_i hlt
  simp only [Option.some.injEq] at hj
  subst hj
  refine⟨Int.le_refl _, ?_⟩
  rw [List.getD_eq_getElem?_getD,List.getElem?_eq_getElem hlt]
  exact hB _ (List.getElem_mem _)
 ·cases hj
theorem Cs{P:Program}{a:Act}{w:World}{Q:Exit→Act→World→Prop}{c rest:Code}(l:Nat)(J:Act→World→Prop)(M:Act→World→Nat)(hf:findLabel c l=some (Code.skip.seq rest))
  (round:∀a w,J a w→rest.wp P (Exit.jump l (fun a' w'=>J a' w'∧M a' w'<M a w) Q) a w)
  (first:(∀a w,J a w→rest.wp P (Exit.jump l J Q) a w)→c.wp P (Exit.jump l J Q) a w):(Code.scope c).wp P Q a w:=by
 exact jZ70
theorem Bu{w:World}{base:Nat}{e:TypeId}{size:Nat}{v:Value}{n:Nat}{xs:List Value}(h:w.ownsRow base e size v n xs){g:Nat}(hv:v.ownBlock=some g):g<w.heap.size:=by
 exact jZ82
theorem rows_ne{w:World}{e e':TypeId}{b b' size size' n n':Nat}{v v':Value}{xs xs':List Value}(h:w.ownsRow b e size v n xs)(h':w.ownsRow b' e' size' v' n' xs')(hne:e≠e'){g:Nat}(hg:v.ownBlock=some g)(hg':v'.ownBlock=some g):False:=by
 rcases h.2 with⟨rfl,_⟩|⟨g1,cap1,cur1,rfl,_,hh,_⟩
 ·simp [Value.ownBlock] at hg
 ·simp only [Value.ownBlock,Option.some.injEq] at hg
  subst hg
  exact Aq h' hh hne hg'
theorem info_tInt:(Tryz.prog.info? 3).map (fun i=>(i.zero,i.size,i.bytes))=some (some (.int .i64 0),1,8):=by kernel_rfl
set_option maxHeartbeats 400000
theorem rankHigh1_any(a b:Int)(w:World):Calls Tryz.prog 162 #[.int .i64 a,.int .i64 b] w fun e w'=>e= .returned (.bool (aheadB true a b))∧w=w':=by
 go_enter Tryz.func162,Tryz.ntmps162
 go_wp2
 go_ret
 exact⟨rfl,rfl⟩
theorem rankLow1_any(a b:Int)(w:World):Calls Tryz.prog 171 #[.int .i64 a,.int .i64 b] w fun e w'=>e= .returned (.bool (aheadB false a b))∧w=w':=by
 go_enter Tryz.func171,Tryz.ntmps171
 go_wp2
 go_ret
 exact⟨rfl,rfl⟩
def RowI(W:World)(g n cap:Nat)(O:List Int):Prop:=W.ownsRow 0 3 1 (.slice (some ⟨g,0,none⟩) n cap) n (O.flatMap i64c)∧O.length=n
theorem RowI.cell{W:World}{g n cap:Nat}{O:List Int}(h:RowI W g n cap O){k:Nat}{x:Int}(hx:O[k]?=some x):W.cell? ⟨g,k,none⟩=some (.int .i64 x):=by
 obtain⟨h,rfl⟩:=h
 have:=Bi Cc h hx 0 (by decide)
 exact jZ83
theorem RowI.free{W:World}{g n cap:Nat}{O:List Int}(h:RowI W g n cap O)(j:Nat):W.frozen? ⟨g,j,none⟩=false:=by
 exact jZ41
theorem RowI.set{W:World}{g n cap:Nat}{O:List Int}(h:RowI W g n cap O){k:Nat}(hk:k<n)(x:Int):RowI (W.setCell ⟨g,k,none⟩ (.int .i64 x)) g n cap (O.set k x):=by
 exact jZ66
theorem RowI.keep{W W':World}{g n cap:Nat}{O:List Int}(h:RowI W g n cap O)(hk:Keeps (fun _=>False) W W'):RowI W' g n cap O:=⟨h.1.of_keeps hk,h.2⟩
theorem RowI.lt{W:World}{g n cap:Nat}{O:List Int}(h:RowI W g n cap O):g<W.heap.size:=Bu h.1 rfl
theorem jump_normal{l:Nat}{J:Act→World→Prop}{Q:Exit→Act→World→Prop}{a:Act}{w:World}(h:Q .normal a w):Exit.jump l J Q .normal a w:=h
def slotNatR(i:Nat)(a':Act):Nat:=match a'.tmps.getD i undef with| .int _ n=>n.toNat|_=>0
def rkFr(vR clo vO:Value)(i n k:Nat)(r:Int)(u:Nat→Value):Act:={ tmps:= #[vR,clo,undef,undef,.slice none 0 0,vO,.int .i64 ((i:Nat):Int),.int .i64 r,.int .i64 ((k:Nat):Int),vR,.int .i64 ((n:Nat):Int),.int .i64 ((i:Nat):Int),u 12,u 13,u 14,u 15,u 16,u 17,u 18,u 19,u 20,u 21,u 22,u 23,u 24,u 25,u 26,u 27,u 28,u 29,u 30,u 31,u 32,u 33,u 34,u 35,u 36,u 37,u 38,u 39,u 40,u 41,u 42,u 43,u 44,u 45,u 46,u 47,u 48,u 49,u 50,u 51,u 52,u 53,u 54,u 55,u 56,undef],defers:= [] }
structure RkAt(hi:Bool)(R:List Int)(i:Nat)(w:World)(g c k:Nat)(W:World):Prop where
 ki:k≤i
 row:RowI W g (i+1) c ((rankN hi R i).take k++ [(i:Int)+1]++(rankN hi R i).drop k)
 pl:plR hi R (R.getD i 0) (rankN hi R i) i=plR hi R (R.getD i 0) (rankN hi R i) k
 fr:Fresh w W (.slice (some ⟨g,0,none⟩) (i+1) c)
def rkJ(hi:Bool)(R:List Int)(i:Nat)(w:World)(vR clo:Value)(n:Nat)(a':Act)(W:World):Prop:=∃(k g c:Nat) (u:Nat→Value),a'=rkFr vR clo (.slice (some ⟨g,0,none⟩) (i+1) c) i n k (R.getD i 0) u∧RkAt hi R i w g c k W
end Go.Proofs.YthffbjldpfionaaGreat
