/- Part 44 of what the laws of this seat share: walks of functions, and plain laws. -/
import Derived.Lib.AppendIntMem
import Derived.Lib.ItoaLen
import Derived.Lib.ConvBytes
import Derived.Test.YtjkdnaljkdnomaaGreatDoorRows
import Derived.Stop.LaidErr
import Derived.Stop.Joined
import Derived.MakeChecks
import Derived.Lib.LaidTab
import Derived.Test.YtjkdnaljkdnomaaGreatDoorS31
import Derived.Test.YtjkdnaljkdnomaaGreatDoorS42
import Derived.Test.YtjkdnaljkdnomaaGreatDoorS43
set_option maxRecDepth 100000
set_option maxHeartbeats 3200000
namespace Go.Proofs.YtjkdnaljkdnomaaGreatDoor
open Go.RowKit
theorem ofE_scr:∀s<256,∀c<28,ofE (10957+(s:Nat)) ((c:Nat)+1) (10957+(s:Nat))=0:=by decide+kernel
theorem Xb{B:List Int}(h:ByOk B):∀n,(Co B n).all Tn.okB=true
 |0=>rfl
 |n+1=>by
  rw [Co,List.all_append,Xb h n];have:=Mk h (1+2*n);simp [scrTr,Tn.okB,inB];omega
theorem scr_rep{B:List Int}(h:ByOk B):Dj (Bz B) [] (Bz B).start=0:=by
 have hN:=Te h;have b2:=Mk h (scrO B+2);have b3:=Mk h (scrO B+3);have b5:=Mk h (scrO B+5);have hst:10957<=(Bz B).start/\(Bz B).start<=11212:=by simp only [Bz];omega
 have ho:(Bz B).okB=true:=by
  unfold Tm.okB;simp only [inB,Bool.and_eq_true,decide_eq_true_eq];simp only [Bz,Cy,Xb h,and_true];omega
 have he:(Bz B).err=0:=by unfold Tm.err;rw [ho];rfl
 have hz:ofE (Bz B).start (Bz B).cyc (Bz B).start=0:=by
  have:=ofE_scr (bt B (scrO B+5)).toNat j6 (bt B (scrO B) % 28).toNat j6;rw [show(((bt B (scrO B+5)).toNat:Nat):Int)=bt B (scrO B+5) by omega,show(((bt B (scrO B) % 28).toNat:Nat):Int)=bt B (scrO B) % 28 by omega] at this;exact this
 unfold Dj;rw [if_pos he,if_pos (show Gl (Bz B) []=0 from rfl),if_neg (show¬2000<([]:List Ev).length by decide),if_neg (show¬((Bz B).start<(Bz B).start\/2932896<(Bz B).start) by omega),if_neg (λh=>h hz)];rfl
theorem openScr{w0 W:World}{P n g:Nat}{ad:Option Addr}{cap:Nat}{t:Tm}{l:Nat}(hl:t.trs.length=l)(h3:l<=3)(hre:Dj t [] t.start=0)(hk0:K0 w0 W)(hp:PadAt W P (.slice (some ⟨g,0,none⟩) n n) ⟨List.replicate n lf0,0,0,false⟩)(hP:w0.heap.size<=P)(hg:w0.heap.size<=g)(hn:3<=n)(ht:W.ownsRow 0 39 2 (.slice ad l cap) l (t.trs.flatMap Tn.cells)):
  Calls Tryz.prog 9 #[(.pointer (some ⟨P,0,none⟩)),t.val (.slice ad l cap)] W λe W'=>∃q u p,e= .returned (.tuple #[(.pointer (some ⟨q.S,0,none⟩)),.int .i64 0])/\q.P=P/\u<=3/\PadI p u n/\SvL w0 W' q p 0 u 1 (acNew t)/\Keeps (PFoot P (.slice (some ⟨g,0,none⟩) n n)) W W':=by
 subst hl;have hl:chunks (Gj t).length<=3:=by rw [Wv];unfold chunks;omega
 have:=Yf t ad cap P _ _ W (Reads.Bg ht) (λb hb=>by
  rintro(e|e)
  ·exact Ah ht hp.blk j7 (e▸hb)
  ·exact Fj ht hp.row (by decide) hb e) hre hp rfl rfl (λx hx=>by rw [List.eq_of_mem_replicate hx];rfl) (by show(0:Int)+1<=1000000;decide) (by simp;omega)
 refine this.mono ?_;rintro e W' ⟨q,R',rfl,hqP,hqv,hS,hk,hf,hr⟩
 have hlo:∀b,PFoot P (.slice (some ⟨g,0,none⟩) n n) b->w0.heap.size<=b:=by
  rintro b (rfl|e)
  ·exact hP
  ·have:g=b:=Option.some.inj e;omega
 have hs:=hk0.size;have hpi:=(PadI.new n).ink (Gj t);rw [Nat.zero_add] at hpi;exact⟨q,_,_,rfl,hqP,hl,hpi,⟨⟨R',hS⟩,λb hb=>(hf b hb).elim (hlo b) λe=>by omega,hk0.trans (hk.mono λi _ e=> .inr (hlo i e))⟩,hk⟩
def tx(l:List UInt8):ByteArray:=⟨l.toArray⟩
theorem Ye(a:List UInt8):(tx a).size=a.length:=by unfold tx;simp [ByteArray.size]
def Tab(w:World):Prop:=Lib.TabIs Tryz.prog w "internal/strconv.uint64pow10" .u64 Lib.pow10Tab
theorem Tab.keeps{w w':World}(h:Tab w)(hk:K0 w w'):Tab w':=Lib.tabBelow_of_tabIs h w' (hk.below (by simp) (Nat.le_refl _))
theorem Keeps.grow(w:World)(k:Nat)(os:Array Obj):K0 w (Sort.grow (w.drewN k) os):=(Keeps.of_below (Lib.below_grow w.heap.size w (Nat.le_refl _) k os)).mono (λk hk hB=>by omega)
theorem Rz(u:Nat):(Lib.decDigits u).count 10=0:=by
 induction u using Nat.strongRecOn with
 |_ u ih=>
  have hd:∀d:Fin 10,(UInt8.ofNat (48+d.val)==(10:UInt8))=false:=by decide
  by_cases h:u<10
  ·rw [Lib.decDigits,dif_pos h];have:=hd ⟨u,h⟩;simp only at this;rw [List.count_cons,this];rfl
  ·rw [Lib.decDigits,dif_neg h,List.count_append,ih _ j6];have:=hd ⟨u % 10,by omega⟩;simp only at this;rw [List.count_cons,this];rfl
theorem itoa_no10(v:Int):(Lib.itoa v).count 10=0:=by
 unfold Lib.itoa
 split
 ·rw [List.count_cons,Rz];rfl
 ·exact Rz _
def Num(x:ByteArray):Prop:=∃m:List UInt8,x=tx m/\m.count 10=0/\m.length<=21
theorem Jt(n:Int)(w:World)(h0: -9223372036854775808<=n)(h1:n<=9223372036854775807)(ht:Tab w):Calls Tryz.prog 16 #[.int .i64 n,.int .i64 10] w λe w'=>∃x,e= .returned (.string x)/\Num x/\K0 w w':=by
 refine(Tryz.strconv_FormatInt_10 n h0 h1 w ht).mono ?_;rintro e w' ⟨rfl,k,os,rfl⟩;exact⟨_,rfl,⟨_,rfl,itoa_no10 n,Lib.itoa_length_le n h0 h1⟩,Keeps.grow w k os⟩
theorem IsBF.keeps{S:Nat->Prop}{T e:TypeId}{B b:Nat}{bs:List Value}{w w':World}(h:Lib.IsBuilderF T e B b bs w)(hk:Keeps S w w')(hb:¬S b)(hr:∀k,TyAt w k e->¬S k):Lib.IsBuilderF T e B b bs w':=by
 have one:∀p,Lib.BuilderAtF T e B b p bs w->Lib.BuilderAtF T e B b p bs w':=by
  rintro p ⟨h1,v,h2,⟨h3,h4⟩,h5⟩;refine⟨h1,v,Ad h2 hk hb,⟨h3, ?_⟩,h5⟩;rcases h4 with h4|⟨g,cap,cur,fz,hv,hg,hh,r⟩
  ·exact .inl h4
  ·exact .inr ⟨g,cap,cur,fz,hv,hg,by rw [hk.block g (lt_of_block hh) (hr g ⟨_,_,hh⟩)];exact hh,r⟩
 exact h.elim (λx=> .inl (one _ x)) (λx=> .inr (one _ x))
def WrF(w:World)(B b:Nat):Prop:=B<=b/\(b=B\/TyAt w b 5)
theorem write_any{B:Nat}{l:List UInt8}{W:World}(h:Lib.IsBuilderF 48 5 B B (Lib.byteCells l) W)(hB:B<=W.heap.size){x:ByteArray}{m:List UInt8}(hx:x=tx m)(hl:l.length+m.length<=1000000):
  Calls Tryz.prog 15 #[(.pointer (some ⟨B,0,none⟩)),.string x] W λe w'=>e= .returned (.tuple #[.int .i64 x.size,.nilIface])/\Lib.IsBuilderF 48 5 B B (Lib.byteCells (l++m)) w'/\Keeps (WrF W B) W w':=by
 subst hx;refine(Any.Builder_WriteString_k Tryz.lays166 Tryz.Qm B B (Lib.byteCells l) (tx m) W h (by rw [Lib.byteCells_length,Ye];omega) hB).mono ?_;rintro e w' ⟨rfl,h1,h2,h3⟩;refine⟨rfl, ?_,h2.os,h2.tape,h2.output,h2.size,λi hi hn=> ?_⟩
 ·rw [Lib.byteCells_append];exact .inr h1
 ·by_cases hb:i<B
  ·exact h2.block i hb
  ·obtain⟨o,ho⟩:∃o,W.heap[i]?=some o:=⟨_,Array.getElem?_eq_getElem hi⟩;rw [ho];exact h3 i o ho (λe=>hn ⟨by omega,.inl (Option.some.inj e)⟩) (λc fz e=>hn ⟨by omega,.inr ⟨c,fz,ho.trans (congrArg some e)⟩⟩)
theorem SvL.wr{w0 W W':World}{q:SvV}{p:Pd}{fl:Int}{u nr:Nat}{a:Ac}(h:SvL w0 W q p fl u nr a){B:Nat}(hB:TyAt W B 48)(hw:w0.heap.size<=B)(hk:Keeps (WrF W B) W W'):SvL w0 W' q p fl u nr a:=by
 obtain⟨RL,hS⟩:=h.is;refine⟨⟨RL,hS.keeps hk λb hb e=> ?_⟩,h.lo,h.kp.trans (hk.mono λi _ e=> .inr (Nat.le_trans hw e.1))⟩
 obtain⟨t,ht,hy⟩:∃t,TyAt W b t/\(t=48\/t=5):=by
  rcases e.2 with rfl|e
  ·exact⟨_,hB,.inl rfl⟩
  ·exact⟨_,e,.inr rfl⟩
 rcases hb with hb|hb
 ·have:=hS.ty hb ht;rcases hy with rfl|rfl<;>exact absurd this j7
 ·have:=hS.acc.ty (.inr hb) ht;rcases hy with rfl|rfl<;>exact absurd this j7
def ErB(z:Int):Prop:=0<=z/\z<=100
theorem ErB.ite{p:Prop} [Decidable p] {a b:Int}(ha:ErB a)(hb:ErB b):ErB (if p then a else b):=by split<;>assumption
theorem er{n:Int}(h:(decide (0<=n)&&decide (n<=100))=true):ErB n:=by simpa [ErB] using h
theorem askE_er(p:Ps)(T:List Int)(a:Int):ErB (askE p T a):=by
 unfold askE
 repeat' first|exact er rfl|apply ErB.ite
theorem applyR_er(p:Ps)(R:List Int)(e:Ev):ErB (Dv p R e).2.2:=by
 unfold Dv Fu Ja payR giveR
 repeat' first|exact er rfl|exact askE_er _ _ _|split
theorem evR_er(day:Int):∀(M:List Ev) (i:Nat) (p:Ps) (R:List Int),ErB (evR day M i p R).2.2.2
 | [],_,_,_=>er rfl
 |e::M,i,p,R=>by
  unfold evR
  split
  ·split
   ·exact evR_er day M _ _ _
   ·exact applyR_er p R e
  ·exact er rfl
theorem Tt(t:Tm)(T:List Ev)(n:Nat):∀(d:Nat) (S:List (Int×Int)) (s:St),ErB (walkD t T n d S s).2
 |0,_,s=>evR_er _ _ _ _ _
 |d+1,S,s=>by
  unfold walkD
  split
  ·rcases S with _|⟨⟨fr,te⟩,S⟩
   ·exact er rfl
   ·dsimp only
    split
    ·split
     ·exact er rfl
     ·exact Tt t T n d _ _
    ·exact Tt t T n d _ _
  ·exact evR_er _ _ _ _ _
theorem Abu(t:Tm)(e:Ev):ErB (evErr t e):=by
 unfold evErr
 repeat' first|exact er rfl|apply ErB.ite
theorem Xq(t:Tm):∀L,ErB (Gl t L)
 | []=>er rfl
 |e::L=>by unfold Gl;exact ErB.ite (Xq t L) (Abu t e)
theorem repErr_er(t:Tm)(L:List Ev)(td:Int):ErB (Dj t L td):=by
 unfold Dj
 repeat' first|exact er rfl|exact Xq t L|apply ErB.ite
theorem Aa6(t:Tm)(L:List Ev)(td:Int):ErB (walkR t L td).2:=by
 unfold walkR
 split
 ·exact Tt _ _ _ _ _ _
 ·exact repErr_er _ _ _
theorem betP_er(seq:Int):∀(L M:List Stm) (acc:List Adj),ErB (betP seq L M acc).1
 | [],M,acc=>by cases M<;>exact er rfl
 |a::A, [],acc=>er rfl
 |a::A,b::B,acc=>by
  unfold betP
  split
  ·exact betP_er seq A B _
  ·exact er rfl
theorem betS_er(seq:Int)(L M:List Stm):ErB (betS seq L M).1:=by
 unfold betS
 split
 ·exact betP_er _ _ _ _
 ·exact er rfl
theorem Ac4(L:List Disp)(t a:Int):ErB (Dq L t a):=by
 unfold Dq
 repeat' first|exact er rfl|apply ErB.ite
theorem Adu(L:List Disp)(ref:Int):ErB (Ct L ref):=by
 unfold Ct
 repeat' first|exact er rfl|split
theorem Ac.dz_er(a:Ac)(c:Cmd):ErB (a.dz c):=by
 have h1:ErB (a.te c.day):=by
  unfold Ac.te
  repeat' first|exact er rfl|exact Aa6 _ _ _|apply ErB.ite
 have h2:∀e,ErB (a.ce e):=λe=>by
  unfold Ac.ce Es
  repeat' first|exact er rfl|exact Aa6 _ _ _|exact betS_er _ _ _|exact Abu _ _|apply ErB.ite
 have h3:ErB (a.ee c):=by
  unfold Ac.ee
  repeat' first|exact er rfl|exact Ac4 _ _ _|apply ErB.ite
 have h4:ErB (a.de c):=by
  unfold Ac.de
  repeat' first|exact er rfl|exact Adu _ _|apply ErB.ite
 have h5:ErB (a.xe c):=by
  unfold Ac.xe Ac.xz
  repeat' first|exact er rfl|exact h4|exact h3|exact h2 _|apply ErB.ite
 unfold Ac.dz tellE
 repeat' first|exact er rfl|exact h1|exact h5|apply ErB.ite
theorem Ac.dr_bd{a:Ac}(c:Cmd)(hD:a.D.length<=100000):0<=a.dr c/\a.dr c<=200000:=by
 have h1:0<=Eh a.D c.tranche c.amount/\Eh a.D c.tranche c.amount<=200000:=by unfold Eh;split<;>omega
 unfold Ac.dr Ac.xr Ac.xev Ac.evt
 split
 ·split
  ·rename_i h;rw [if_neg j6]
   split
   ·decide
   ·dsimp only
    split
    ·exact h1
    ·decide
  ·decide
 ·decide
theorem Ac.dc_bd{a:Ac}(c:Cmd)(ho:(a.act c).s.out.length<=300):0<=a.dc c/\a.dc c<=300:=by
 unfold Ac.dc Ac.tc
 split
 ·rename_i hk
  split
  ·rename_i h;have:(a.act c).s=(a.tz c.day).1:=by unfold Ac.act Ac.tick;rw [if_pos hk,if_pos h.1]
   rw [this] at ho;omega
  ·decide
 ·decide
structure RnI(w W:World)(S Bb:Nat)(v:Value)(M i c n:Nat)(O:List Cmd):Prop where
 lv:∃q p u nr A,SvL w W q p 0 u nr A/\PadI p u 2000/\q.S=S/\u<=3+i/\nr<=1+i/\A.seq<=i
 row:W.ownsRow 0 33 5 v M (O.flatMap Cmd.cells)
 lo:w.heap.size<=Bb
 bld:∃l:List UInt8,Lib.IsBuilderF 48 5 Bb Bb (Lib.byteCells l) W/\l.count 10=c/\l.length<=n
theorem bldTy{B:Nat}{bs:List Value}{W:World}(h:Lib.IsBuilderF 48 5 B B bs W):TyAt W B 48:=by
 rcases h with⟨_,v,h,_⟩|⟨_,v,h,_⟩<;>exact⟨_,_,h⟩
theorem TyAt.lt{W:World}{B:Nat}{t:TypeId}(h:TyAt W B t):B<W.heap.size:=by obtain⟨_,_,h⟩:=h;exact lt_of_block h
section
variable {w W W':World} {S Bb M i c n:Nat} {v:Value} {O:List Cmd}
theorem RnI.keep(h:RnI w W S Bb v M i c n O)(hk:K0 W W'):RnI w W' S Bb v M i c n O:=by
 obtain⟨⟨q,p,u,nr,A,h1,h2⟩,h3,h4,l,h5,h6⟩:=h;exact⟨⟨q,p,u,nr,A,h1.keep hk,h2⟩,hk.row h3 (by simp),h4,l,IsBF.keeps h5 hk (by simp) (by simp),h6⟩
theorem RnI.kpw(h:RnI w W S Bb v M i c n O):K0 w W:=by obtain⟨⟨q,p,u,nr,A,h1,_⟩,_⟩:=h;exact h1.kp
theorem RnI.le(h:RnI w W S Bb v M i c n O){n':Nat}(hn:n<=n'):RnI w W S Bb v M i c n' O:=by
 obtain⟨h1,h3,h4,l,h5,h6,h7⟩:=h;exact⟨h1,h3,h4,l,h5,h6,by omega⟩
theorem RnI.done(h:RnI w W S Bb v M i c n O){q q':SvV}{p p':Pd}{u nr u' nr':Nat}{A A':Ac}(hS:SvL w W q p 0 u nr A)(hS':SvL w W' q' p' 0 u' nr' A')(hk:Keeps (SvF q) W W')(hp:PadI p' u' 2000)(hq:q'.S=S)(hu:u'<=3+(i+1))(hr:nr'<=1+(i+1))(hs:A'.seq<=((i+1:Nat):Int)):RnI w W' S Bb v M (i+1) c n O:=by
 obtain⟨h1,h3,h4,l,h5,h6⟩:=h;obtain⟨RL,hA⟩:=hS.is;exact⟨⟨q',p',u',nr',A',hS',hp,hq,hu,hr,hs⟩,hS.row hk h3 j7,h4,l,IsBF.keeps h5 hk (λe=>absurd (hA.ty e (bldTy h5)) j7) (λk hk e=>absurd (hA.ty e hk) j7),h6⟩
theorem RnI.write(h:RnI w W S Bb v M i c n O){x:ByteArray}{m:List UInt8}(hx:x=tx m)(hn:n+m.length<=1000000):
  Calls Tryz.prog 15 #[(.pointer (some ⟨Bb,0,none⟩)),.string x] W λe w'=>e= .returned (.tuple #[.int .i64 x.size,.nilIface])/\RnI w w' S Bb v M i (c+m.count 10) (n+m.length) O/\Keeps (WrF W Bb) W w':=by
 obtain⟨⟨q,p,u,nr,A,h1,h2⟩,h3,h4,l,h5,h6,h7⟩:=h;have ht:=bldTy h5;refine(write_any h5 (Nat.le_of_lt ht.lt) hx j6).mono ?_;rintro e w' ⟨rfl,hb,hk⟩;refine⟨rfl,⟨⟨q,p,u,nr,A,h1.wr ht h4 hk,h2⟩,hk.row h3 (λk hk e=> ?_),h4,_,hb,by rw [List.count_append,h6],by rw [List.length_append];omega⟩,hk⟩;have hy:TyAt W k 33:= .row h3 hk;rcases e.2 with rfl|e
 ·exact absurd (TyAt.eq hy ht) j7
 ·exact absurd (TyAt.eq hy e) j7
theorem RnI.nums(h:RnI w W S Bb v M i c n O)(hk:Keeps (WrF W Bb) W W'){b:Value}{k:Nat}{xs:List Value}(hr:W.ownsRow 0 2 1 b k xs):W'.ownsRow 0 2 1 b k xs:=by
 obtain⟨_,_,_,l,h5,_⟩:=h;refine hk.row hr λj hj e=> ?_;have hy:TyAt W j 2:= .row hr hj;rcases e.2 with rfl|e
 ·exact absurd (TyAt.eq hy (bldTy h5)) j7
 ·exact absurd (TyAt.eq hy e) j7
end
theorem total_bd{p:Ps}(h:p.Bh=true):0<=sumI p.bal/\sumI p.bal<=1000000000000000:=by
 simp only [Ps.Bh,scanB,Bool.and_eq_true,decide_eq_true_eq] at h;exact(Bi _).1 h.1.2
def RunTx(w:World)(M:Nat)(e:Ending)(w':World):Prop:=∃g cap l,e= .returned (.slice (some ⟨g,0,none⟩) (List.length l) cap)/\(∀(j:Nat) (z:UInt8),l[j]?=some z->w'.cell? ⟨g,j,none⟩=some (.int .u8 z.toNat))/\l.count 10=M/\l.length<=30000/\K0 w w'
theorem RunTx.mk{w W:World}{l:List UInt8}{M cap:Nat}(hk:K0 w W)(hM:l.count 10=M)(hl:l.length<=30000):RunTx w M (.returned (.slice (some ⟨W.heap.size,0,none⟩) (tx l).size cap)) (Lib.bytesWorld W 5 (tx l)):=by
 refine⟨W.heap.size,cap,l,by rw [Ye],λj z hz=> ?_,hM,hl,hk.nt ⟨rfl,rfl,rfl,by rw [Lib.bytesWorld_size];omega,λk h1 _=>Lib.bytesWorld_at_old _ _ _ _ h1⟩⟩;have hj:j<l.length:=(List.getElem?_eq_some_iff.1 hz).1;rw [Lib.bytesWorld_cell _ _ _ _ (by rw [Ye];exact hj)]
 have:(tx l).data.toList.getD j 0=z:=by
  show l.toArray.toList.getD j 0=z;rw [List.getD_eq_getElem?_getD,hz];rfl
 rw [this]
theorem Aaf:(Tryz.prog.info? 26).map (·.size)=some 7:=by kernel_rfl
theorem size_tPos:(Tryz.prog.info? 51).map (·.size)=some 3:=by kernel_rfl
def tmB(b:Nat)(C:Array Value)(W:World):Prop:=W.heap[b]?=some (.cells C 26 (0,0))
def lnS(m p:Nat)(z1 z2 z3 cr:Int)(V:Array Value)(W:World):Prop:=W.cell? ⟨m,0,none⟩=some (.int .i64 z1)/\W.cell? ⟨m,1,none⟩=some (.int .i64 z2)/\W.cell? ⟨m,2,none⟩=some (.int .i64 z3)/\W.cell? ⟨p,1,none⟩=some (.int .i64 cr)/\W.heap[p]?=some (.cells V 51 (0,0))
theorem lnS.keep{m p:Nat}{z1 z2 z3 cr:Int}{V:Array Value}{W W':World}(h:lnS m p z1 z2 z3 cr V W)(hk:K0 W W'):lnS m p z1 z2 z3 cr V W':=
 ⟨(hk.cell (Ai h.1) (by simp)).trans h.1,(hk.cell (Ai h.2.1) (by simp)).trans h.2.1,(hk.cell (Ai h.2.2.1) (by simp)).trans h.2.2.1,(hk.cell (Ai h.2.2.2.1) (by simp)).trans h.2.2.2.1,Ad h.2.2.2.2 hk (by simp)⟩
theorem Acp(B:List Int)(ad:Option Addr)(cap:Nat)(w:World)(hr:Reads w 1 (.slice ad B.length cap) B.length (B.flatMap u8c))(hB:ByOk B)(ht:Tab w):Calls Tryz.prog 6 #[.slice ad B.length cap] w (RunTx w (scrM B)):=by
 have hdec:=Nk B ad cap w hr hB;obtain⟨t0,t2,t3,t4,t5,t6,htm⟩:∃t0 t2 t3 t4 t5 t6:Int,∀v,(Bz B).cells v= #[.int .i64 t0,v,.int .i64 t2,.int .i64 t3,.int .i64 t4,.int .i64 t5,.int .i64 t6]:=⟨_,_,_,_,_,_,λv=>rfl⟩;have hM2:scrM B<=200:=by unfold scrM;omega
 have hlen:=Tx B (scrM B);obtain⟨A0,hA0⟩:=eX (acNew (Bz B));have hsq0:A0.seq=0:=by rw [<-hA0];rfl
 have hN:=Te hB
 have hop:∀(W:World) (P g c:Nat) (ad:Option Addr),K0 w W->PadAt W P (.slice (some ⟨g,0,none⟩) 2000 2000) ⟨List.replicate 2000 lf0,0,0,false⟩->w.heap.size<=P->w.heap.size<=g->W.ownsRow 0 39 2 (.slice ad (scrN B) c) (scrN B) ((Co B (scrN B)).flatMap Tn.cells)->Calls Tryz.prog 9 #[(.pointer (some ⟨P,0,none⟩)),.agg #[.int .i64 t0,.slice ad (scrN B) c,.int .i64 t2,.int .i64 t3,.int .i64 t4,.int .i64 t5,.int .i64 t6]] W λe W'=>∃q u p,e= .returned (.tuple #[(.pointer (some ⟨q.S,0,none⟩)),.int .i64 0])/\q.P=P/\u<=3/\PadI p u 2000/\SvL w W' q p 0 u 1 A0/\Keeps (PFoot P (.slice (some ⟨g,0,none⟩) 2000 2000)) W W':=by
  intro W P g c ad h1 h2 h3 h4 h5;have:=openScr (t:=Bz B) (Cy B (scrN B)) hN.2 (scr_rep hB) h1 h2 h3 h4 j7 h5;rw [show(Bz B).val (.slice ad (scrN B) c)= .agg ((Bz B).cells (.slice ad (scrN B) c)) from rfl,htm,hA0] at this;exact this
 have hnew:=λW=>Abe 2000 W j7 j7;rw [show(((2000:Nat):Int))=2000 from rfl] at hnew;unfold Jo at hdec;obtain⟨M,hM⟩:=eX (scrM B);obtain⟨N,hNe⟩:=eX (scrN B);obtain⟨O,hO⟩:=eX (Bt B M);obtain⟨TR,hTR⟩:=eX (Co B N);rw [hM] at hM2 hlen hdec⊢;rw [hNe] at hop hdec hN;rw [hO] at hlen hdec;rw [hTR] at hop hdec;simp only [htm] at hdec;clear hr hB htm hA0 hTR hNe;obtain⟨Hdec,Hop,Hnew,Hlen⟩:=hid4 hdec hop hnew hlen;clear hlen hnew hop hdec hM hO hN;obtain⟨Ht,Hsq0⟩:=hid2 ht hsq0;clear hsq0 ht;go_enter Tryz.func6,Tryz.ntmps6;go_wp2_with fail;refine Hdec.o.mono ?_;rintro e w1 ⟨v0,v,rfl,htr,hrow,hk1,_,_⟩;obtain⟨at1,ct1,rfl,_,_⟩:=Ae htr;obtain⟨ac1,cc1,rfl,_,_⟩:=Ae hrow;obtain⟨Htr,Hrow,Hk1⟩:=hid3 htr hrow hk1;clear hk1 hrow htr
 go_upto_region 2 with fail
 refine Lh λw2 hw2=> ?_;obtain⟨tb,htb⟩:=eX w1.heap.size;rw [htb];have hb2:tmB tb #[.int .i64 t0,.slice at1 N ct1,.int .i64 t2,.int .i64 t3,.int .i64 t4,.int .i64 t5,.int .i64 t6] w2:=by rw [hw2,<-htb];exact heap_alloc_new w1 _
 have hk12:K0 w1 w2:=by rw [hw2];exact Keeps.alloc _ _
 have hk2:=Hk1.o.nt hk12;have htr2:=hk12.row Htr.o (by simp);have hrow2:=hk12.row Hrow.o (by simp);clear hw2 hk12;obtain⟨Hb2,Hk2,Htr2,Hrow2⟩:=hid4 hb2 hk2 htr2 hrow2;clear hrow2 htr2 hk2 hb2 htb;refine Ak (tmB tb #[.int .i64 t0,.slice at1 N ct1,.int .i64 t2,.int .i64 t3,.int .i64 t4,.int .i64 t5,.int .i64 t6]) (.take 1 (.move 0 (.move 2 (.take 3 (.take 4 (.take 5 (.take 6 (.take 7 .done)))))))) j9 j9 ?_ ?_
 ·exact Hb2.o
 intro wa hsa hka;refine j1e ?_;refine Ee rfl (by rfl) tb rfl 26 #[.int .i64 t0,.slice at1 N ct1,.int .i64 t2,.int .i64 t3,.int .i64 t4,.int .i64 t5,.int .i64 t6] _ _ (λw h=>h) Tryz.underlying26 rfl Aaf ?_;refine j1e ?_;refine ja ?_;intro K hK
 go_at_call 10
 ((with_reducible refine(Hnew.o wa).mono ?_);rintro e wb ⟨g,rfl,hp2,hkb,hg⟩)
 dsimp only;have hsb:tmB tb #[.int .i64 t0,.slice at1 N ct1,.int .i64 t2,.int .i64 t3,.int .i64 t4,.int .i64 t5,.int .i64 t6] wb:=Ad hsa hkb (by simp);refine hK.out _ _ (by exact hsb) ?_;clear hK K;refine jc ?_;refine j1e ?_;have hkwa:=Hk2.o.nt hka;have hsz:=hkwa.size;have hkwb:=hkwa.nt hkb;have htrb:=(hka.nt hkb).row Htr2.o (by simp);refine ja ?_;intro K hK
 go_at_call 9
 ((with_reducible refine((Hop.o wb _ _ _ _ hkwb hp2 j6 j6 htrb)).mono ?_);rintro e wc ⟨q,u,p,rfl,hqP,hu,hpi,hL,hkc⟩)
 dsimp only
 have hty:∀k t,PFoot (wa.heap.size+1) (.slice (some ⟨g,0,none⟩) 2000 2000) k->TyAt wb k t->t=96\/t=165:=λk t hk ht=>by
  rcases hk with rfl|hk
  ·exact .inl (ht.eq ⟨_,_,hp2.blk⟩)
  ·exact .inr (ht.eq (.row hp2.row hk))
 have hsc:tmB tb #[.int .i64 t0,.slice at1 N ct1,.int .i64 t2,.int .i64 t3,.int .i64 t4,.int .i64 t5,.int .i64 t6] wc:=Ad hsb hkc λe=>by
  rcases hty _ _ e ⟨_,_,hsb⟩ with h|h<;>exact absurd h j7
 have hrowc:=hkc.row ((hka.nt hkb).row Hrow2.o (by simp)) (λk hk e=>by
  rcases hty _ _ e (.row ((hka.nt hkb).row Hrow2.o (by simp)) hk) with h|h<;>exact absurd h (by decide))
 refine hK.out _ _ (by exact hsc) ?_;clear hK K;refine jc ?_;refine j1e ?_;refine Aq ?_;obtain⟨S,hS⟩:=eX q.S;rw [hS];clear hsa hka hp2 hkb hg hsb hkwa hsz hkwb htrb hqP hkc hty hsc;obtain⟨Hu,Hpi,HL,Hrowc,HS⟩:=hid5 hu hpi hL hrowc hS;clear hS hrowc hL hpi hu
 go_upto_region 4 with fail
 refine Lh λw5 hw5=> ?_;obtain⟨Bb,hBb⟩:=eX wc.heap.size;have hkc5:K0 wc w5:=by rw [hw5];exact Keeps.alloc _ _
 have hI:RnI w w5 S Bb (.slice ac1 M cc1) M 0 0 0 O:=by
  have hkw:=HL.o.kp;refine⟨⟨q,p,u,1,A0,HL.o.keep hkc5,Hpi.o,HS.o,Nat.le_trans Hu.o j6,by omega,by rw [Hsq0.o];decide⟩,hkc5.row Hrowc.o (by simp),by rw [<-hBb];exact hkw.size, [], ?_,rfl,Nat.le_refl _⟩;rw [hw5,<-hBb];exact Lib.IsBuilderF.of (Lib.fresh_isBuilder _ _ wc)
 rw [hBb];clear hw5 hkc5;have HI:=Lib.hid hI;clear hI
 go_upto_region 5 with fail
 go_loopw [27] (λb wr=>∃i:Nat,i<=M/\b= .int .i64 (i:Nat)/\Hid (RnI w wr S Bb (.slice ac1 M cc1) M i i (120*i) O)) (λb _=>M-(intOf b).toNat)
 case atStart=>exact⟨0,Nat.zero_le _,rfl,HI⟩
 case round=>
  obtain⟨i,hiM,rfl,HI⟩:=hrel;obtain⟨w9,hw9⟩:=eY wr;subst hw9;by_cases hlt:i<M
  ·have hltI:(i:Int)<(M:Int):=j8;obtain⟨⟨q,p,u,nr,A,hL,hpi,hqS,hu,hnr,hsq⟩,hrw,_,_⟩:=HI.o;obtain⟨⟨ki,da,tr,am,re⟩,hx⟩:=Ar (L:=O) (k:=i) (by rw [Hlen.o];exact hlt);obtain⟨gc,oc,c',he,hc⟩:=(Reads.Bg hrw).elem Cmd.Aj hx j7;simp only [Value.slice.injEq,true_and] at he;obtain⟨rfl,rfl⟩:=he;have x0:w9.cell? ⟨gc,oc+i*5,none⟩=some (.int .i64 ki):=hc 0 j7;have x1:w9.cell? ⟨gc,oc+i*5+1,none⟩=some (.int .i64 da):=hc 1 j7;have x2:w9.cell? ⟨gc,oc+i*5+2,none⟩=some (.int .i64 tr):=hc 2 j7;have x3:w9.cell? ⟨gc,oc+i*5+3,none⟩=some (.int .i64 am):=hc 3 j7;have x4:w9.cell? ⟨gc,oc+i*5+4,none⟩=some (.int .i64 re):=hc 4 j7;have hdo:=λW (hW:K0 w9 W)=>svL_do (hL.keep hW) hpi ⟨ki,da,tr,am,re⟩ j6 j6 j6;have hseq:=(A.seq_act ⟨ki,da,tr,am,re⟩).2;rw [hqS] at hdo;simp only at hdo;have hzb:=A.dz_er ⟨ki,da,tr,am,re⟩;obtain⟨z1,hz1⟩:=eX (A.dz ⟨ki,da,tr,am,re⟩);rw [hz1] at hzb;have hD:A.D.length<=100000:=by obtain⟨RL,hS⟩:=hL.is;exact Nat.le_trans hS.acc.bk.ok.1 j7
   have hrb:=Ac.dr_bd (a:=A) ⟨ki,da,tr,am,re⟩ hD;obtain⟨z2,hz2⟩:=eX (A.dr ⟨ki,da,tr,am,re⟩);rw [hz2] at hrb;have hcb:=Ac.dc_bd (a:=A) ⟨ki,da,tr,am,re⟩;obtain⟨z3,hz3⟩:=eX (A.dc ⟨ki,da,tr,am,re⟩);rw [hz3] at hcb;obtain⟨kb,hkbe⟩:=eX (keptB A ⟨ki,da,tr,am,re⟩);obtain⟨A',hA'⟩:=eX (A.act ⟨ki,da,tr,am,re⟩);unfold SvStep at hdo;rw [hkbe,hA',hz1,hz2,hz3] at hdo;rw [hA'] at hseq hcb;clear hc hD;obtain⟨HL,Hpi,HqS⟩:=hid3 hL hpi hqS;clear hqS hpi hL hrw hx;obtain⟨Hdo,Hseq⟩:=hid2 hdo hseq;clear hseq hdo hkbe hA';obtain⟨Hnr,Hsq,Hu,Hzb,Hrb,Hcb⟩:=hid6 hnr hsq hu hzb hrb hcb;clear hcb hrb hzb hu hsq hnr hz1 hz2 hz3;go_wp2_with fail;refine(Hdo.o _ (Keeps.alloc _ _)).mono ?_;rintro e w10 ⟨v,rfl,hans,q',p',hL',hpi',hqS',hqP',hk10⟩;obtain⟨s0,s1,s3,s4,s7,p0,p1,p2,p3,p5,p6,p7,k1,m1,d1,k2,m2,d2,k3,m3,d3,k4,m4,d4,gr,hv⟩:=hans.letters;subst hv;have hI10:RnI w w10 S Bb (.slice (some ⟨gc,oc,none⟩) M cc1) M (i+1) i (120*i) O:=RnI.done (HI.o.keep (Keeps.alloc _ _)) (HL.o.keep (Keeps.alloc _ _)) hL' hk10 hpi' (hqS'.trans HqS.o) (by have:=Hu.o;split<;>omega) (by have:=Hnr.o;split<;>omega) (by have:=Hsq.o;have:=Hseq.o;omega)
   obtain⟨RL',hS'⟩:=hL'.is;have hnum:=hS'.acc.ok.nums;have hcb2:=Hcb.o hnum.o3;obtain⟨td,htd⟩:=eX A'.today;obtain⟨cy,hcy⟩:=eX (A'.cyc A'.today);obtain⟨sq,hsqe⟩:=eX A'.seq;obtain⟨cr,hcr⟩:=eX A'.s.p.cr;obtain⟨du,hdu⟩:=eX A'.s.p.du;obtain⟨nb,hnb⟩:=eX A'.s.p.bal.length;obtain⟨nR,hnR⟩:=eX A'.s.R.length;obtain⟨nD,hnD⟩:=eX A'.D.length;obtain⟨tt,htt⟩:=eX (sumI A'.s.p.bal);have httb:=total_bd hnum.pr;rw [htt] at httb;have hrn:=Eo hnum.pr;have hcrb:=hrn.2.1;rw [hcr] at hcrb
   have htot:∀(W:World) (ad:Option Addr) (cap:Nat),Reads W 1 (.slice ad nb cap) nb (A'.s.p.bal.flatMap i64c)->Calls Tryz.prog 14 #[.agg #[.slice ad nb cap,.int .i64 cr,.int .i64 du]] W λe w'=>e= .returned (.int .i64 tt)/\K0 W w':=by
    intro W ad cap h;have:=Gp A'.s.p ad cap W (by rw [hnb];exact h) (by have:=hrn.2.2.2.2;omega);unfold Ps.val at this;rw [if_pos hnum.pr,hnb,hcr,hdu,htt] at this;exact this
   have hfk:=λW (hW:K0 w10 W)=>Vp q' p' 0 _ _ RL' A' W (hS'.keep0 hW) (by have:=Hsq.o;have:=Hseq.o;omega);rw [hqS',HqS.o] at hfk;have hst:=fun(W:World) (F:Nat) (xf:AcV) (h:AcAt W F xf A')=>at_st h htd hcy hsqe hcr hdu hnb hnR hnD;unfold StL at hst;have hput:=setRow_heap (w10.alloc (.cells #[.int .i64 0,.int .i64 0,.int .i64 0,.int .i64 0,.int .i64 0,.slice none 0 0,.int .i64 0,.int .i64 0,.slice none 0 0,.slice none 0 0,.int .i64 0,.int .i64 0,.int .i64 0,.int .i64 0,.int .i64 0,.slice none 0 0,.int .i64 0,.int .i64 0,.int .i64 0,.bool false] 61)) w10.heap.size #[.int .i64 0,.int .i64 0,.int .i64 0,.int .i64 0,.int .i64 0,.slice none 0 0,.int .i64 0,.int .i64 0,.slice none 0 0,.slice none 0 0,.int .i64 0,.int .i64 0,.int .i64 0,.int .i64 0,.int .i64 0,.slice none 0 0,.int .i64 0,.int .i64 0,.int .i64 0,.bool false] #[.int .i64 z1,.int .i64 z2,.int .i64 z3,.int .i64 s0,.int .i64 s1,.slice k1 m1 d1,.int .i64 s3,.int .i64 s4,.slice k2 m2 d2,.slice k3 m3 d3,.int .i64 s7,.int .i64 p0,.int .i64 p1,.int .i64 p2,.int .i64 p3,.slice k4 m4 d4,.int .i64 p5,.int .i64 p6,.int .i64 p7,.bool gr] 61 _ (heap_alloc_new w10 _);clear hans x0 x1 x2 x3 x4 hL' hpi' hk10 hS' hnum hrn hqS' hqP' htd hcy hsqe hcr hdu hnb hnR hnD htt;obtain⟨HI10,Hcb2,Httb,Hcrb,Htot,Hfk,Hput,Hst⟩:=hid8 hI10 hcb2 httb hcrb htot hfk hput hst;clear hst hput hfk htot hcrb httb hcb2 hI10
   go_upto_region 8 with(refine wpList_store_row rfl 61 (.tmp 10) (.tmp 33) rfl w10.heap.size #[.int .i64 z1,.int .i64 z2,.int .i64 z3,.int .i64 s0,.int .i64 s1,.slice k1 m1 d1,.int .i64 s3,.int .i64 s4,.slice k2 m2 d2,.slice k3 m3 d3,.int .i64 s7,.int .i64 p0,.int .i64 p1,.int .i64 p2,.int .i64 p3,.slice k4 m4 d4,.int .i64 p5,.int .i64 p6,.int .i64 p7,.bool gr] rfl rfl 61 _ (heap_alloc_new w10 _) Au rfl (Ab7 z1 z2 z3 s0 s1 s3 s4 s7 p0 p1 p2 p3 p5 p6 p7 k1 k2 k3 k4 m1 d1 m2 d2 m3 d3 m4 d4 gr) ?_)
   refine Lh λw11 hw11=> ?_;rw [<-hw11] at Hput;have hk11:K0 w10 w11:=by rw [hw11];exact(Keeps.alloc w10 _).trans ((Cg _ _ _).mono λi _ e=> .inr (by have e':i=w10.heap.size:=e;omega))
   obtain⟨mb,hmb⟩:=eX w10.heap.size;rw [hmb] at Hput⊢;have hb11:=Hput.o;have hI11:=HI10.o.keep hk11;clear hw11 Hput hmb;obtain⟨Hk11,Hb11,HI11⟩:=hid3 hk11 hb11 hI11;clear hI11 hb11 hk11;go_wp2_with fail;refine(Hfk.o _ Hk11.o).mono ?_;rintro e w12 ⟨F,xf,rfl,hA12,hk12,_⟩;have hst12:=Hst.o _ _ _ hA12;have hb12:=Ad Hb11.o hk12 (by simp);have hI12:=HI11.o.keep hk12;clear hA12 hk12;obtain⟨Hst12,Hb12,HI12⟩:=hid3 hst12 hb12 hI12;clear hI12 hb12 hst12;go_wp2_with fail;refine Hst12.o.mono ?_;rintro e w13 ⟨a1,c1,a2,c2,a3,c3,rfl,ra,_,_,hk13,_⟩;have hb13:=Ad Hb12.o hk13 (by simp);have hI13:=HI12.o.keep hk13;have hfi:∀W,(Instr.field 54 (.agg #[.int .i64 td,.int .i64 cy,.slice a1 nb c1,.int .i64 cr,.int .i64 du,.slice a2 nR c2,.slice a3 nD c3,.int .i64 sq]) 2).run Tryz.prog W= .ok (.agg #[.slice a1 nb c1,.int .i64 cr,.int .i64 du]) W:=λ_=>by kernel_rfl
   clear hk13;obtain⟨Ra,Hb13,HI13⟩:=hid3 ra hb13 hI13;clear hI13 hb13 ra
   go_upto_region 9 with fail
   refine Lh λw14 hw14=> ?_;obtain⟨pb,hpb⟩:=eX w13.heap.size;rw [hpb];have hq14:w14.heap[pb]?=some (.cells #[.slice a1 nb c1,.int .i64 cr,.int .i64 du] 51 (0,0)):=by rw [hw14,<-hpb];exact heap_alloc_new w13 _
   have hk14:K0 w13 w14:=by rw [hw14];exact Keeps.alloc _ _
   have hb14:=Ad Hb13.o hk14 (by simp);have hI14:=HI13.o.keep hk14;have hra14:=(Reads.Bg Ra.o).keeps hk14 (by simp);have hs14:lnS mb pb z1 z2 z3 cr #[.slice a1 nb c1,.int .i64 cr,.int .i64 du] w14:=⟨Aa hb14 0,Aa hb14 1,Aa hb14 2,Aa hq14 1,hq14⟩;clear hw14 hq14 hk14 hb14 hfi;obtain⟨HI14,Hra14,Hs14⟩:=hid3 hI14 hra14 hs14;clear hs14 hra14 hI14 hpb;refine Ak (lnS mb pb z1 z2 z3 cr #[.slice a1 nb c1,.int .i64 cr,.int .i64 du]) (.take 0 (.take 1 (.take 2 (.take 3 (.take 4 (.take 5 (.take 6 (.take 8 (.take 9 (.take 12 (.move 7 (.move 10 (.take 11 .done))))))))))))) j9 j9 ?_ ?_
   ·exact Hs14.o.keep (Keeps.drew (S:=λ_=>False) _)
   intro wa hsa hka;refine jR ?_;refine Ee rfl (by rfl) pb rfl 51 #[.slice a1 nb c1,.int .i64 cr,.int .i64 du] _ _ (λw h=>h.2.2.2.2) Tryz.underlying51 rfl size_tPos ?_;refine je ?_;intro K hK
   go_at_call 14
   ((with_reducible refine(Htot.o wa a1 c1 (Hra14.o.keeps hka (by simp))).mono ?_);rintro e wb ⟨rfl,hkb⟩)
   dsimp only;have hsb:=hsa.keep hkb;refine hK.out _ _ (by exact hsb) ?_;clear hK K;refine jh ?_;have hIb:=(HI14.o.keep hka).keep hkb;refine ja ?_;intro K hK;refine hK.out _ _ (by exact hsb.keep (Keeps.alloc _ _)) ?_;clear hK K;refine jk ?_;clear hsb hkb hsa hka;have HIb:=Lib.hid hIb;clear hIb
   go_upto_region 10 with fail
   refine Lh λw15 hw15=> ?_;obtain⟨g5,hg5⟩:=eX wb.heap.size;obtain⟨V,hV⟩:=eX ( [z1,z2,z3,tt,cr])
   have hr15:w15.ownsRow 0 2 1 (.slice (some ⟨g5,0,none⟩) 5 5) 5 (V.flatMap i64c):=by
    rw [hw15,<-hg5,<-hV];exact⟨rfl,.inr ⟨_,5,_,rfl,Nat.zero_le _,heap_alloc_new wb _,Nat.le_refl _,by unfold maxLen;omega,rfl,rfl⟩⟩
   have hI15:RnI w w15 S Bb (.slice (some ⟨gc,oc,none⟩) M cc1) M (i+1) i (120*i) O:=by rw [hw15];exact HIb.o.keep (Keeps.alloc _ _)
   have hVb:V.length=5/\∀z∈V, -9223372036854775808<=z/\z<=9223372036854775807:=by
    subst hV;obtain⟨e1,e2⟩:=Hzb.o;have e3:=Hrb.o;have e4:=Hcb2.o;have e5:=Httb.o;have e6:=Hcrb.o;refine⟨rfl,λz hz=> ?_⟩;simp only [List.mem_cons,List.not_mem_nil,or_false] at hz;rcases hz with rfl|rfl|rfl|rfl|rfl<;>omega
   rw [hg5];clear hw15 hg5 hV;obtain⟨Hr15,HI15,HVb⟩:=hid3 hr15 hI15 hVb;clear hVb hI15 hr15
   go_loopw [50] (λb wr=>∃k:Nat,k<=5/\b= .int .i64 (k:Nat)/\Hid (RnI w wr S Bb (.slice (some ⟨gc,oc,none⟩) M cc1) M (i+1) i (120*i+22*k) O)/\Hid (wr.ownsRow 0 2 1 (.slice (some ⟨g5,0,none⟩) 5 5) 5 (V.flatMap i64c))) (λb _=>5-(intOf b).toNat)
   case atStart=>exact⟨0,by omega,rfl,HI15,Hr15⟩
   case round=>
    obtain⟨k,hk5,rfl,HK,HR⟩:=hrel;obtain⟨w16,hw16⟩:=eY wr;subst hw16;by_cases hlk:k<5
    ·have hlkI:(k:Int)<5:=j8;obtain⟨z,hz⟩:=Ar (L:=V) (k:=k) (by rw [HVb.o.1];exact hlk);obtain⟨hz1,hz2⟩:=HVb.o.2 z (List.mem_of_getElem? hz);obtain⟨g,o,he,y⟩:=(Reads.Bg HR.o).int (k:= .i64) hz;simp only [Option.some.injEq,Addr.mk.injEq,and_true] at he;obtain⟨rfl,rfl⟩:=he;have y':=y;rw [Nat.zero_add] at y';have hiM2:120*i<=24000:=j8;clear hz;by_cases hk0:k=0
     ·have hkI:¬(0:Int)<(k:Int):=j8;have HKa:=HK;have HRa:=HR;clear hk0;exact j4Q
     ·have hkI:(0:Int)<(k:Int):=j8;clear hk0;have hws:=HK.o.write (x:=⟨#[32]⟩) (m:= [32]) rfl ji;rw [show List.count (10:UInt8) [32]=0 from rfl,Nat.add_zero,show List.length [(32:UInt8)]=1 from rfl] at hws;have Hws:=Lib.hid hws;clear hws;go_wp2_with fail;refine Hws.o.mono ?_;rintro e w19 ⟨rfl,hKa,hk19⟩;have hRa:=HK.o.nums hk19 HR.o;clear y y' hk19;obtain⟨HKa,HRa⟩:=hid2 hKa hRa;clear hRa hKa;exact j4Q
    ·obtain rfl:k=5:=by omega
     have hkI:¬((5:Nat):Int)<5:=by decide
     have hws:=HK.o.write (x:=⟨#[10]⟩) (m:= [10]) rfl ji;rw [show List.count (10:UInt8) [10]=1 from rfl,show List.length [(10:UInt8)]=1 from rfl] at hws;have Hws:=Lib.hid hws;clear hws;go_wp2_with fail;refine Hws.o.mono ?_;rintro e w19 ⟨rfl,hKa,_⟩;have HKa:=Lib.hid hKa;clear hKa;go_wp2;go_roundw
     case rel=>exact⟨i+1,by omega,by go_num,Lib.hid (HKa.o.le j6)⟩
     case measure=>simp [intOf];omega
  ·have hge:¬((i:Int)<(M:Int)):=j8;have hkp:=HI.o.kpw;obtain⟨_,_,hlo,l,hbld,hc,hn⟩:=HI.o;have hstr:=Any.Builder_String_any_k Tryz.lays169 Tryz.Ql Bb Bb l w9 hbld (Nat.le_of_lt (bldTy hbld).lt);obtain⟨Hkp,Hlo,Hc,Hn,Hstr⟩:=hid5 hkp hlo hc hn hstr;clear hstr hn hc hlo hkp;clear hbld;go_wp2_with fail;refine Hstr.o.mono ?_;rintro e w20 ⟨rfl,_,hbel,_⟩;have hk20:K0 w w20:=Hkp.o.trans ((Keeps.of_below hbel).mono λi _ e=> .inr (by have:=Hlo.o;omega));have hconv:=Lib.run_convert_string_bytes (P:=Tryz.prog) w20 9 22 5 ⟨l.toArray⟩ Tryz.underlying9 Tryz.underlying22 Tryz.underlying5;have hpo:=λcap=>RunTx.mk (cap:=cap) hk20 (show l.count 10=M by have:=Hc.o;omega) (by have:=Hn.o;omega);unfold tx at hpo;clear hbel hk20;have Hpo:=Lib.hid hpo;clear hpo;go_wp2;go_ret;exact Hpo.o _
theorem tab_of{W:World}(h:laidMetH Tryz.prog [("math/bits.deBruijn32tab",Rows.laid_math_bits_deBruijn32tab),("math/bits.deBruijn64tab",Rows.laid_math_bits_deBruijn64tab),("internal/strconv.uint64pow10",Rows.laid_internal_strconv_uint64pow10)] W):Tab W:=by
 rw [Go.MakeChecks.laidMetH_plain _ _ _ j9] at h;have h2:=h.tail.tail;have e:(Rows.laid_internal_strconv_uint64pow10:DataW Unit)=Lib.tabData .u64 Lib.pow10Tab:=by kernel_rfl
 rw [e] at h2;exact Lib.tabIs_of_head (rest:= []) (g:=0) (t:=195) (e:=156) (n:=20) j9 j9 Tryz.underlying195 Tryz.underlying156 j9 j9 h2
end Go.Proofs.YtjkdnaljkdnomaaGreatDoor
