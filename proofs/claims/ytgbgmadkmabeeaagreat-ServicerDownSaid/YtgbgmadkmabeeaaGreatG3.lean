/- Part 3 of what the laws of this seat share: walks of functions, and plain laws. -/
import Derived.Laws.BitsAllLaws
import Derived.Test.YtgbgmadkmabeeaaGreatG1
set_option maxRecDepth 100000
set_option maxHeartbeats 3200000
namespace Go.Proofs.YtgbgmadkmabeeaaGreat
open Go.RowKit
structure Ln where
 balance:Int
 interest:Int
 rate:Int
deriving DecidableEq,Inhabited
def Ln.cells(d:Ln):List Value:= [.int .i64 d.balance,.int .i64 d.interest,.int .i64 d.rate]
theorem Ln.Aj(d:Ln):d.cells.length=3:=rfl
theorem Ln.one(L:List Ln):∀u∈L.flatMap Ln.cells,u.oneCell'=true:=by
 intro u hu;obtain⟨d,_,hd⟩:=List.mem_flatMap.1 hu;simp only [Ln.cells,List.mem_cons,List.not_mem_nil,or_false] at hd;rcases hd with rfl|rfl|rfl<;>rfl
structure Stm where
 cycle:Int
 fr:Int
 te:Int
 due:Int
 total:Int
 credit:Int
 min:Int
 grace:Bool
 lines:List Ln
def Stm.val(s:Stm)(v:Value):Value:= .agg #[.int .i64 s.cycle,.int .i64 s.fr,.int .i64 s.te,.int .i64 s.due,v,.int .i64 s.total,.int .i64 s.credit,.int .i64 s.min,.bool s.grace]
theorem Uz:(Tryz.prog.info? 160).map (λi=>(i.zero,i.size,i.bytes))=some (some (.agg #[.int .i64 0,.int .i64 0,.int .i64 0]),3,24):=by kernel_rfl
theorem Na:(Tryz.prog.info? 60).map (λi=>(i.zero,i.size,i.bytes))=some (some (.agg #[.int .i64 0,.int .i64 0,.int .i64 0,.int .i64 0,.slice none 0 0,.int .i64 0,.int .i64 0,.int .i64 0,.bool false]),9,88):=by kernel_rfl
structure SV where
 s:Stm
 ad:Option Addr
 cap:Nat
def SV.v(x:SV):Value:= .slice x.ad x.s.lines.length x.cap
def SV.cells(x:SV):List Value:= [.int .i64 x.s.cycle,.int .i64 x.s.fr,.int .i64 x.s.te,.int .i64 x.s.due,x.v,.int .i64 x.s.total,.int .i64 x.s.credit,.int .i64 x.s.min,.bool x.s.grace]
theorem SV.Aj(x:SV):x.cells.length=9:=rfl
def eight(v:Int):List Int:=
 [v / 72057594037927936 % 256,v / 281474976710656 % 256,v / 1099511627776 % 256,v / 4294967296 % 256,v / 16777216 % 256,v / 65536 % 256,v / 256 % 256,v % 256]
theorem Db(v:Int):(eight v).length=8:=rfl
theorem Ry(v:Int):∀z∈eight v,0<=z/\z<=255:=by
 intro z hz;simp only [eight,List.mem_cons,List.not_mem_nil,or_false] at hz;rcases hz with rfl|rfl|rfl|rfl|rfl|rfl|rfl|rfl<;>omega
def mayB(most:Int)(L:List Int):Bool:=L.all λv=>decide (0<=v/\v<=most)
def dayB(n:Int):Bool:=decide (-135140<=n/\n<=2932896)
def Ln.okB(x:Ln):Bool:=mayB 1000000000000000 [x.balance,x.interest]&&mayB 10000000 [x.rate]
def sumLn(L:List Ln):Int:=(L.map Ln.balance).sum
def Stm.Bj(s:Stm):Bool:=
 decide (1<=s.cycle/\s.cycle<=300)&&(dayB s.fr&&dayB s.te&&dayB s.due)&&decide (s.fr<=s.te)&&decide (s.te<=s.due)&&decide (1<=s.lines.length/\s.lines.length<=8)&&
  mayB 1000000000000000 [s.total,s.credit,s.min]&&decide (s.min<=s.total)&&s.lines.all Ln.okB&&decide (sumLn s.lines=s.total)
def Stm.head(s:Stm):List Int:= [s.cycle,s.fr,s.te,s.due,s.total,s.credit,s.min,if s.grace then 1 else 0,s.lines.length]
def Ln.nums(x:Ln):List Int:= [x.balance,x.interest,x.rate]
def Stm.nums(s:Stm):List Int:=s.head++s.lines.flatMap Ln.nums
def packN(L:List Int):List Int:=L.flatMap eight
theorem Pz(L:List Int):(packN L).length=8*L.length:=by
 induction L with
 |nil=>rfl
 |cons a l ih=>rw [packN,List.flatMap_cons,List.length_append,Db];rw [packN] at ih;rw [ih];simp;omega
theorem Zg(L M:List Int):packN (L++M)=packN L++packN M:=List.flatMap_append
structure Grown(w w':World)(v v':Value)(B:List Int):Prop where
 row:w'.ownsRow 0 5 1 v' B.length (B.flatMap u8c)
 kp:Keeps (λk=>v.ownBlock=some k) w w'
 nw:v'.ownBlock=v.ownBlock\/∃g,v'.ownBlock=some g/\w.heap.size<=g
theorem Grown.refl{w:World}{v:Value}{B:List Int}(h:w.ownsRow 0 5 1 v B.length (B.flatMap u8c)):Grown w w v v B:=⟨h,Keeps.refl _ _,.inl rfl⟩
theorem Grown.app{w wr w4:World}{v v' v4:Value}{B:List Int}{z:Int}{o:Obj}{xs:List Value}{n:Nat}(h:Grown w wr v v' B)(hx:xs=B.flatMap u8c++ [.int .u8 z])(hn:n=B.length+1)(ho:w4.ownsRow 0 5 1 v4 n xs)(hk:Keeps (λk=>v'.ownBlock=some k) (wr.alloc o) w4)(hf:v4.ownBlock=v'.ownBlock\/∃g,v4.ownBlock=some g/\wr.heap.size+1<=g):Grown w w4 v v4 (B++ [z]):=by
 subst hx hn;have hs:=h.kp.size;have hk':Keeps (λk=>v'.ownBlock=some k) wr w4:=(Keeps.alloc _ _).trans (hk.mono λ_ _ h=> .inl h);refine⟨by simpa [List.flatMap_append,u8c] using ho,h.kp.trans (hk'.mono λk _ hk=> ?_), ?_⟩
 ·rcases h.nw with e|⟨g,hg,hh⟩
  ·left;rw [<-e];exact hk
  ·right;rw [hg] at hk;simp only [Option.some.injEq] at hk;omega
 ·rcases hf with e|⟨g,hg,hh⟩
  ·rcases h.nw with e'|⟨g,hg,hh⟩
   ·left;rw [e,e']
   ·right;exact⟨g,by rw [e,hg],hh⟩
  ·right;exact⟨g,hg,by omega⟩
theorem Grown.reads{w w':World}{v v' x:Value}{B:List Int}{size m:Nat}{news:List Value}(h:Grown w w' v v' B)(hr:Reads w size x m news)(hap:∀g,x.ownBlock=some g->v.ownBlock≠some g):Reads w' size x m news:=
 hr.keeps h.kp λg hg hv=>hap g hg hv
theorem Lm(v:Value)(B:List Int)(ad:Option Addr)(cap:Nat)(L:List Int)(w:World)(ho:w.ownsRow 0 5 1 v B.length (B.flatMap u8c))(hr:Reads w 1 (.slice ad L.length cap) L.length (L.flatMap i64c))
  (hap:∀g,(Value.slice ad L.length cap).ownBlock=some g->v.ownBlock≠some g) (hl:B.length+8*L.length<=1000000):
  Calls Tryz.prog 53 #[v,.slice ad L.length cap] w λe w'=>∃v',e= .returned v'/\Grown w w' v v' (B++packN L):=by
 obtain⟨i0,hi,hi0,hi1,hi2⟩:=info_parts Jc;obtain⟨av,capv,rfl,hcv,_⟩:=Ae ho;have hgr:=Grown.refl ho;obtain⟨Ho,Hr,Hap,Hgr⟩:=hid4 ho hr hap hgr;clear hgr hap hr ho;go_enter Tryz.func53,Tryz.ntmps53;go_wp2
 go_loopw [0,10] (λa c wr=>∃(j:Nat) (va:Value),j<=L.length/\c= .int .i64 (j:Nat)/\a=va/\Grown w wr (.slice av B.length capv) va (B++packN (L.take j))) (λ_ c _=>L.length-(intOf c).toNat)
 case atStart=>exact⟨0,_,Nat.zero_le _,rfl,rfl,by simpa [packN] using Hgr.o⟩
 case round=>
  obtain⟨j,va,hj,rfl,rfl,hg⟩:=hrel;by_cases hjl:j<L.length
  ·obtain⟨x,hx⟩:=Au hjl;obtain⟨g,o,rfl,x0⟩:=(hg.reads Hr.o Hap.o).int hx;obtain⟨C,hC⟩:=eX (B++packN (L.take j));have hCl:C.length<=999992:=by rw [<-hC,List.length_append,Pz,List.length_take];omega
   have hnx:B++packN (L.take (j+1))=C++eight x:=by rw [take_snoc' hx,Zg,<-List.append_assoc,hC];simp [packN]
   rw [hC] at hg;obtain⟨Hx,Hg,HC,Hnx⟩:=hid4 hx hg hC hnx;clear hnx hC hg hx;go_wp2
   go_loopw [0,7] (λa c wr=>∃(i:Nat) (va:Value),i<=8/\c= .int .i64 (56-8*(i:Int))/\a=va/\Grown w wr (.slice av B.length capv) va (C++(eight x).take i)) (λ_ c _=>(intOf c+8).toNat)
   case atStart=>exact⟨0,_,Nat.zero_le _,rfl,rfl,by simpa using Hg.o⟩
   case round=>
    obtain⟨i,va,hi8,rfl,rfl,hg⟩:=hrel;obtain⟨K,hK⟩:∃K:Int,56-8*(i:Int)=K:=⟨_,rfl⟩;rw [hK];have hrow:=hg.row;have hEl:(C++(eight x).take i).length<=1000000:=by rw [List.length_append,List.length_take,Db];omega
    obtain⟨av',capv',rfl,hcv',_⟩:=Ae hrow;obtain⟨E,hE⟩:=eX (C++(eight x).take i);rw [hE] at hg hrow hEl hcv'⊢;by_cases hi7:i<8
    ·rcases(show i=0\/i=1\/i=2\/i=3\/i=4\/i=5\/i=6\/i=7 by omega) with rfl|rfl|rfl|rfl|rfl|rfl|rfl|rfl
     ·
      obtain rfl:K=56:=by omega
      obtain⟨Hg,Hrow,HE⟩:=hid3 hg hrow hE;clear hE hrow hg
      go_wp2_with (at_builtin;refine Ap rfl (.tmp 18) (.tmp 23) 24 rfl 0 5 i0 _ 1 1 Tryz.underlying24 hi hi0 hi1 hi2 rfl j7 (.slice av' E.length capv') E.length _ rfl (Hrow.o.alloc _) _ 1 _ rfl (Reads.lit _ _ _ _ _ rfl) jg jd j6 j6 ?_)
      refine jG ?_;intro v4 w4 Hg4;go_wp2;go_roundw
      case rel=>exact⟨0+1,_,by omega,by go_num,rfl,by have:=Hg4.o;rw [<-HE.o,List.append_assoc] at this;first|exact this|(simp at this⊢;exact this)⟩
      case measure=>simp [intOf]
     ·
      obtain rfl:K=48:=by omega
      obtain⟨Hg,Hrow,HE⟩:=hid3 hg hrow hE;clear hE hrow hg
      go_wp2_with (at_builtin;refine Ap rfl (.tmp 18) (.tmp 23) 24 rfl 0 5 i0 _ 1 1 Tryz.underlying24 hi hi0 hi1 hi2 rfl j7 (.slice av' E.length capv') E.length _ rfl (Hrow.o.alloc _) _ 1 _ rfl (Reads.lit _ _ _ _ _ rfl) jg jd j6 j6 ?_)
      refine jG ?_;intro v4 w4 Hg4;go_wp2;go_roundw
      case rel=>exact⟨1+1,_,by omega,by go_num,rfl,by have:=Hg4.o;rw [<-HE.o,List.append_assoc] at this;first|exact this|(simp at this⊢;exact this)⟩
      case measure=>simp [intOf]
     ·
      obtain rfl:K=40:=by omega
      obtain⟨Hg,Hrow,HE⟩:=hid3 hg hrow hE;clear hE hrow hg
      go_wp2_with (at_builtin;refine Ap rfl (.tmp 18) (.tmp 23) 24 rfl 0 5 i0 _ 1 1 Tryz.underlying24 hi hi0 hi1 hi2 rfl j7 (.slice av' E.length capv') E.length _ rfl (Hrow.o.alloc _) _ 1 _ rfl (Reads.lit _ _ _ _ _ rfl) jg jd j6 j6 ?_)
      refine jG ?_;intro v4 w4 Hg4;go_wp2;go_roundw
      case rel=>exact⟨2+1,_,by omega,by go_num,rfl,by have:=Hg4.o;rw [<-HE.o,List.append_assoc] at this;first|exact this|(simp at this⊢;exact this)⟩
      case measure=>simp [intOf]
     ·
      obtain rfl:K=32:=by omega
      obtain⟨Hg,Hrow,HE⟩:=hid3 hg hrow hE;clear hE hrow hg
      go_wp2_with (at_builtin;refine Ap rfl (.tmp 18) (.tmp 23) 24 rfl 0 5 i0 _ 1 1 Tryz.underlying24 hi hi0 hi1 hi2 rfl j7 (.slice av' E.length capv') E.length _ rfl (Hrow.o.alloc _) _ 1 _ rfl (Reads.lit _ _ _ _ _ rfl) jg jd j6 j6 ?_)
      refine jG ?_;intro v4 w4 Hg4;go_wp2;go_roundw
      case rel=>exact⟨3+1,_,by omega,by go_num,rfl,by have:=Hg4.o;rw [<-HE.o,List.append_assoc] at this;first|exact this|(simp at this⊢;exact this)⟩
      case measure=>simp [intOf]
     ·
      obtain rfl:K=24:=by omega
      obtain⟨Hg,Hrow,HE⟩:=hid3 hg hrow hE;clear hE hrow hg
      go_wp2_with (at_builtin;refine Ap rfl (.tmp 18) (.tmp 23) 24 rfl 0 5 i0 _ 1 1 Tryz.underlying24 hi hi0 hi1 hi2 rfl j7 (.slice av' E.length capv') E.length _ rfl (Hrow.o.alloc _) _ 1 _ rfl (Reads.lit _ _ _ _ _ rfl) jg jd j6 j6 ?_)
      refine jG ?_;intro v4 w4 Hg4;go_wp2;go_roundw
      case rel=>exact⟨4+1,_,by omega,by go_num,rfl,by have:=Hg4.o;rw [<-HE.o,List.append_assoc] at this;first|exact this|(simp at this⊢;exact this)⟩
      case measure=>simp [intOf]
     ·
      obtain rfl:K=16:=by omega
      obtain⟨Hg,Hrow,HE⟩:=hid3 hg hrow hE;clear hE hrow hg
      go_wp2_with (at_builtin;refine Ap rfl (.tmp 18) (.tmp 23) 24 rfl 0 5 i0 _ 1 1 Tryz.underlying24 hi hi0 hi1 hi2 rfl j7 (.slice av' E.length capv') E.length _ rfl (Hrow.o.alloc _) _ 1 _ rfl (Reads.lit _ _ _ _ _ rfl) jg jd j6 j6 ?_)
      refine jG ?_;intro v4 w4 Hg4;go_wp2;go_roundw
      case rel=>exact⟨5+1,_,by omega,by go_num,rfl,by have:=Hg4.o;rw [<-HE.o,List.append_assoc] at this;first|exact this|(simp at this⊢;exact this)⟩
      case measure=>simp [intOf]
     ·
      obtain rfl:K=8:=by omega
      obtain⟨Hg,Hrow,HE⟩:=hid3 hg hrow hE;clear hE hrow hg
      go_wp2_with (at_builtin;refine Ap rfl (.tmp 18) (.tmp 23) 24 rfl 0 5 i0 _ 1 1 Tryz.underlying24 hi hi0 hi1 hi2 rfl j7 (.slice av' E.length capv') E.length _ rfl (Hrow.o.alloc _) _ 1 _ rfl (Reads.lit _ _ _ _ _ rfl) jg jd j6 j6 ?_)
      refine jG ?_;intro v4 w4 Hg4;go_wp2;go_roundw
      case rel=>exact⟨6+1,_,by omega,by go_num,rfl,by have:=Hg4.o;rw [<-HE.o,List.append_assoc] at this;first|exact this|(simp at this⊢;exact this)⟩
      case measure=>simp [intOf]
     ·
      obtain rfl:K=0:=by omega
      obtain⟨Hg,Hrow,HE⟩:=hid3 hg hrow hE;clear hE hrow hg
      go_wp2_with (at_builtin;refine Ap rfl (.tmp 18) (.tmp 23) 24 rfl 0 5 i0 _ 1 1 Tryz.underlying24 hi hi0 hi1 hi2 rfl j7 (.slice av' E.length capv') E.length _ rfl (Hrow.o.alloc _) _ 1 _ rfl (Reads.lit _ _ _ _ _ rfl) jg jd j6 j6 ?_)
      refine jG ?_;intro v4 w4 Hg4;go_wp2;go_roundw
      case rel=>exact⟨7+1,_,by omega,by go_num,rfl,by have:=Hg4.o;rw [<-HE.o,List.append_assoc] at this;first|exact this|(simp at this⊢;exact this)⟩
      case measure=>simp [intOf]
    ·obtain rfl:i=8:=by omega
     have hK':K= -8:=j8;subst hK';rw [List.take_of_length_le (by rw [Db];omega)] at hE;obtain⟨Hg,Hrow,HE⟩:=hid3 hg hrow hE;clear hE hrow hg;go_wp2;go_roundw
     case rel=>exact⟨j+1,_,by omega,by go_num,rfl,by rw [Hnx.o,HE.o];exact Hg.o⟩
     case measure=>simp [intOf];omega
  ·obtain rfl:j=L.length:=by omega
   rw [List.take_length] at hg;have Hg:=Lib.hid hg;clear hg;go_wp2;go_ret;exact⟨_,rfl,Hg.o⟩
end Go.Proofs.YtgbgmadkmabeeaaGreat
