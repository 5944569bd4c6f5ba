/- Part 1 of the proof of ServicerOther: walks and plain laws. -/
import Derived.Test.YtgbgmadkmabeeaaGreatM2
set_option maxRecDepth 100000
set_option maxHeartbeats 3200000
namespace Go.Proofs.YtgbgmadkmabeeaaGreat
open Go.RowKit
section
def poly(L:List Int):Int:=L.foldl (λv c=>v*256+c) 0
def numOf(L:List Int):Int:=IntKind.i64.wrap (poly L)
def numAt(B:List Int)(i:Nat):Int:=numOf ((B.drop (8*i)).take 8)
theorem poly_eight(v:Int):poly (eight v)=v % 18446744073709551616:=by
 have h1:v / 72057594037927936=v / 281474976710656 / 256:=yy2;have h2:v / 281474976710656=v / 1099511627776 / 256:=yy2;have h3:v / 1099511627776=v / 4294967296 / 256:=yy2;have h4:v / 4294967296=v / 16777216 / 256:=yy2;have h5:v / 16777216=v / 65536 / 256:=yy2;have h6:v / 65536=v / 256 / 256:=yy2;unfold poly eight;simp only [List.foldl];omega
theorem numOf_eight{v:Int}(h: -9223372036854775808<=v/\v<=9223372036854775807):numOf (eight v)=v:=by
 unfold numOf;rw [poly_eight];simp [IntKind.wrap,IntKind.signed,IntKind.bits];omega
theorem numAt_packN{L:List Int}(hL:∀z∈L, -9223372036854775808<=z/\z<=9223372036854775807){i:Nat}{v:Int}(h:L[i]?=some v)(T:List Int):numAt (packN L++T) i=v:=by
 induction L generalizing i with
 |nil=>simp at h
 |cons a l ih=>
  cases i with
  |zero=>
   simp at h;subst h;have:(packN (a::l)++T).take 8=eight a:=by rw [packN,List.flatMap_cons,List.append_assoc,List.take_append_of_le_length (by rw [Cv];omega),List.take_of_length_le (by rw [Cv];omega)]
   simp only [numAt,Nat.mul_zero,List.drop_zero];rw [this];exact numOf_eight (hL a (by simp))
  |succ i=>
   have h':l[i]?=some v:=by simpa using h
   have hd:(packN (a::l)++T).drop (8*(i+1))=(packN l++T).drop (8*i):=by
    rw [packN,List.flatMap_cons,List.append_assoc,List.drop_append,Cv,List.drop_of_length_le (by rw [Cv];omega)];simp only [List.nil_append,packN];congr 1
   simp only [numAt];rw [hd];exact ih (λz hz=>hL z (by simp [hz])) h'
def strOf(L:List Int):ByteArray:=L.foldl (λr n=>r.push (UInt8.ofNat n.toNat)) ByteArray.empty
theorem conv_bytes{w:World}{src dst e:TypeId}(hs:Tryz.prog.underlying src=some (.slice e))(he:Tryz.prog.underlying e=some (.int .u8))(hd:Tryz.prog.underlying dst=some .string){ad:Option Addr}{cap:Nat}{L:List Int}(hr:Reads w 1 (.slice ad L.length cap) L.length (L.flatMap u8c)):
  (convert src dst (.slice ad L.length cap)).run Tryz.prog w= .ok (.string (strOf L)) w:=by
 rw [run_convert_bytes_string w src dst e ad L.length cap hs he hd];obtain⟨ad',c',he',hm,hl,hnone,hnews⟩:=hr;simp only [Value.slice.injEq,true_and] at he';obtain⟨rfl,rfl⟩:=he';rcases ad with _|ad
 ·have:=hnone rfl;obtain rfl:L= []:=List.eq_nil_of_length_eq_zero yy0;simp [Conv.bytesToString,strOf]
 ·have hc:L.flatMap u8c=L.map (Value.int .u8):=Gs L
  have h:=run_loadCells_list (P:=Tryz.prog) w ad (L.map (Value.int .u8)) (λj v hj=>by
   rw [<-hc] at hj;obtain⟨g,o,ha,hh⟩:=hnews j v hj
   cases ha
   rw [Dy];exact hh)
  simp only [List.length_map] at h;exact run_bytesToString w ad L.length cap L h
open Go.RowKit Go.IntWalk
theorem pageL_length{first last:Bool}{B:List Int}(h:B.length<=41):(pageL first last B).length=48:=by simp [pageL];omega
theorem rtmWithin_any(v a b:Int)(w:World):Calls Tryz.prog 113 #[.int .i64 v,.int .i64 a,.int .i64 b] w λe w'=>e= .returned (.bool (inB v a b))/\w=w':=by
 by_cases h1:a<=v
 ·by_cases h2:v<=b
  ·have h:inB v a b=true:=by simp [inB,h1,h2]
   exact ya
  ·have h:inB v a b=false:=by simp [inB,h2]
   have h2':b<v:=yy2;exact ya
 ·have h:inB v a b=false:=by simp [inB,h1]
  have h1':v<a:=yy2;exact ya
theorem rtmWithin_at{v a b:Int}{r:Bool}(hr:inB v a b=r)(w:World):Calls Tryz.prog 113 #[.int .i64 v,.int .i64 a,.int .i64 b] w λe w'=>e= .returned (.bool r)/\w=w':=by
 subst hr;exact rtmWithin_any v a b w
theorem lastF_yes{fr cd:Int}(h0: -135140<=fr)(h1:fr<=2932896)(c0:1<=cd)(c1:cd<=28)(hn2:lastF fr cd+1<=2932896):dD (lastF fr cd+1)=cd:=by
 have h:=date_is h0 h1;have hm:=(Du (y:=dY fr) (m:=dM fr) h.m0 h.m1).2;have hd0:=h.d0;have hd1:=h.d1;unfold lastF at hn2⊢
 split
 ·rename_i hlt;rw [if_pos hlt] at hn2;obtain⟨y',m',h2⟩:=h.over cd c0 c1;rw [show fr-dD fr+cd-1+mlen (dY fr) (dM fr)+1=fr-dD fr+mlen (dY fr) (dM fr)+cd by omega];exact(h2.found yy0).2.2
 ·rename_i hlt;rw [if_neg hlt] at hn2;have h2:=h.same (cd-dD fr) yy0 yy0;rw [show fr-dD fr+cd-1+1=fr+(cd-dD fr) by omega];rw [(h2.found yy0).2.2];omega
end
theorem svPad_any(q:SvV)(p:Pd)(fl:Int)(u nr:Nat)(RL:List Value)(a:Ac)(w:World)(h:SvAt w q p fl u nr RL a):Calls Tryz.prog 35 #[(.pointer (some ⟨q.S,0,none⟩))] w λe w'=>e= .returned (.pointer (some ⟨q.P,0,none⟩))/\w'=w:=by
 have c0:=Aa h.blk 0;have l0:=lt_of_block h.blk;have H:=Lib.hid h;clear h;go_enter Tryz.func35,Tryz.ntmps35;go_wp2;go_ret;exact⟨rfl,rfl⟩
def uq(x m:Int):Int:=IntKind.u64.wrap x % m
theorem uq_bd(x:Int){m:Int}(hm:0<m):0<=uq x m/\uq x m<m:=⟨Int.emod_nonneg _ (by omega),Int.emod_lt_of_pos _ hm⟩
def playTrs(L:List Tn):List Tn:=if((L.take 8).map λx=>(⟨uq x.rate 3000000,x.grace⟩:Tn))= [] then [⟨500000,false⟩] else(L.take 8).map λx=>⟨uq x.rate 3000000,x.grace⟩
def playT(t:Tm):Tm:=if({ t with start:=10957+uq t.start 400 }:Tm).err=0 then { t with start:=10957+uq t.start 400 } else⟨uq t.limit 100000,1+uq t.cyc 28,1+uq t.due 25,uq t.minFixed 100,uq t.minPart 101,10957+uq t.start 400,playTrs t.trs⟩
theorem inB_iff(v a b:Int):inB v a b=true↔a<=v/\v<=b:=by simp [inB]
theorem playTrs_ok(L:List Tn):1<=(playTrs L).length/\(playTrs L).length<=8/\∀x∈playTrs L,x.okB=true:=by
 unfold playTrs
 split
 ·refine⟨by simp,by simp,λx hx=> ?_⟩;obtain rfl:x=⟨500000,false⟩:=by simpa using hx
  rfl
 ·rename_i h;have hl:((L.take 8).map λx=>(⟨uq x.rate 3000000,x.grace⟩:Tn)).length≠0:=λe=>h (List.eq_nil_of_length_eq_zero e);have hl2:((L.take 8).map λx=>(⟨uq x.rate 3000000,x.grace⟩:Tn)).length<=8:=by rw [List.length_map,List.length_take];omega
  refine⟨by omega,hl2,λx hx=> ?_⟩;obtain⟨y,_,rfl⟩:=List.mem_map.1 hx;have:=uq_bd y.rate (m:=3000000) yy1;exact(inB_iff _ _ _).2 ⟨this.1,by show uq y.rate 3000000<=_;omega⟩
theorem playT_ok(t:Tm):(playT t).err=0/\10957<=(playT t).start/\(playT t).start<=11356:=by
 have hs:=uq_bd t.start (m:=400) yy1;unfold playT
 split
 ·rename_i h;exact⟨h,by show 10957<=10957+uq t.start 400;omega,by show 10957+uq t.start 400<=11356;omega⟩
 ·refine⟨?_,by show 10957<=10957+uq t.start 400;omega,by show 10957+uq t.start 400<=11356;omega⟩;obtain⟨h1,h2,h3⟩:=playTrs_ok t.trs;have l:=uq_bd t.limit (m:=100000) yy1;have c:=uq_bd t.cyc (m:=28) yy1;have d:=uq_bd t.due (m:=25) yy1;have f:=uq_bd t.minFixed (m:=100) yy1;have p:=uq_bd t.minPart (m:=101) yy1;unfold Tm.err;rw [if_pos];simp only [Tm.okB,Bool.and_eq_true,inB_iff,List.all_eq_true];refine⟨⟨⟨?_, ?_⟩,h3⟩,⟨⟨⟨?_, ?_⟩, ?_⟩, ?_⟩, ?_⟩<;>constructor<;>omega
theorem rtmRight_big(t:Tm)(ad:Option Addr)(cap:Nat)(w:World)(hr:Reads w 2 (.slice ad t.trs.length cap) t.trs.length (t.trs.flatMap Tn.cells))(hl:t.trs.length<=9223372036854775807):
  Calls Tryz.prog 63 #[t.val (.slice ad t.trs.length cap)] w λe w'=>e= .returned (.int .i64 t.err)/\Keeps (λ_=>False) w w':=by
 obtain⟨li,cy,du,mf,mp,st,L⟩:=t;simp only [Tm.val] at hr hl⊢;obtain⟨n,hn⟩:∃n,L.length=n:=⟨_,rfl⟩
 have hf0:Tm.err ⟨li,cy,du,mf,mp,st,L⟩=if(inB li 0 1000000000000000&&inB (n:Int) 1 8&&L.all Tn.okB&&(inB cy 1 28&&inB du 1 25&&inB mf 0 1000000000000000&&inB mp 0 1000&&inB st (-135140) 2922896))=true then 0 else 6:=by
  simp only [Tm.err,Tm.okB,hn]
 rw [hn] at hr hl⊢;obtain⟨ok0,hok0⟩:∃b,(inB li 0 1000000000000000&&inB (n:Int) 1 8)=b:=⟨_,rfl⟩;rw [hok0] at hf0;have hbox:=heap_alloc_new w (.cells #[.int .i64 li,.slice ad n cap,.int .i64 cy,.int .i64 du,.int .i64 mf,.int .i64 mp,.int .i64 st] 44);obtain⟨Hr,Hf0,Hn,Hbox⟩:=hid4 hr hf0 hn hbox;clear hbox hn hf0 hr;go_enter Tryz.func63,Tryz.ntmps63
 go_upto_region 1 with(fail)
 go_cut [3] (λs3 wx=>s3= .bool ok0/\wx=w.alloc (.cells #[.int .i64 li,.slice ad n cap,.int .i64 cy,.int .i64 du,.int .i64 mf,.int .i64 mp,.int .i64 st] 44))
 case first=>
  rcases b1:inB li 0 1000000000000000 with _|_
  ·have:ok0=false:=by rw [<-hok0,b1];rfl
   subst this;exact yb
  ·by_cases l1:n<1
   ·obtain rfl:n=0:=by omega
    have:ok0=false:=by rw [<-hok0,b1];rfl
    subst this;exact yb
   ·by_cases l2:8<n
    ·have:ok0=false:=by rw [<-hok0,b1];simp [inB];omega
     subst this;have l2':(8:Int)<(n:Int):=yy2;have l1':(1:Int)<=(n:Int):=yy2;obtain⟨B1,Hok0⟩:=hid2 b1 hok0;clear hok0 b1
     go_wp2_with (go_at_call 113;((with_reducible refine(rtmWithin_at B1.out _).mono ?_);rintro e w1 ⟨rfl,rfl⟩))
     go_meet;exact⟨by simp;omega,rfl⟩
    ·have:ok0=true:=by rw [<-hok0,b1];simp [inB];omega
     subst this;have l1':(1:Int)<=(n:Int):=yy2;have l2':(n:Int)<=8:=yy2;exact yb
 case rest=>
  obtain⟨rfl,rfl⟩:=hcut;clear hok0;go_wp2_with fail
  go_loopw [3,4] (λb c wr=>∃(j:Nat) (ok:Bool),j<=n/\c= .int .i64 (j:Nat)/\b= .bool ok/\ok=(ok0&&(L.take j).all Tn.okB)/\Keeps (λ_=>False) w wr/\wr.heap[w.heap.size]?=some (.cells #[.int .i64 li,.slice ad n cap,.int .i64 cy,.int .i64 du,.int .i64 mf,.int .i64 mp,.int .i64 st] 44 (0,0))) (λ_ c _=>n-(intOf c).toNat)
  case atStart=>exact⟨0,ok0,Nat.zero_le _,rfl,rfl,by simp,Keeps.alloc _ _,Hbox.out⟩
  case round=>
   obtain⟨j,ok,hj,rfl,rfl,hok,hk,hb⟩:=hrel;have hbl:=lt_of_block hb;have c1:wr.cell? ⟨w.heap.size,1,none⟩=some (.slice ad n cap):=Aa hb 1;by_cases hjl:j<n
   ·obtain⟨⟨xr,xg⟩,hx⟩:=Ar (L:=L) (k:=j) (by rw [Hn.out];exact hjl);obtain⟨g,o,c,he,hc⟩:=(Hr.out.keeps hk (by simp)).elem Tn.Aj hx yy1;simp only [Value.slice.injEq,true_and] at he;obtain⟨rfl,rfl⟩:=he;have x0:wr.cell? ⟨g,o+j*2,none⟩=some (.int .i64 xr):=hc 0 yy1;clear hc
    have hok':(ok&&inB xr 0 10000000)=(ok0&&(L.take (j+1)).all Tn.okB):=by
     rw [take_snoc' hx,List.all_append,hok];simp [Tn.okB,Bool.and_assoc]
    cases ok with
    |false=>
     obtain⟨Hx,Hok,Hk,Hb,Hok'⟩:=hid5 hx hok hk hb hok';clear hok' hb hk hok hx;go_wp2_with fail;go_roundw
     case rel=>exact⟨j+1,false,by omega,by go_num,rfl,by rw [<-Hok'.out];rfl,Hk.out,Hb.out⟩
     case measure=>simp [intOf];omega
    |true=>
     rcases b3:inB xr 0 10000000 with _|_
     ·rw [b3] at hok';obtain⟨Hx,Hok,Hk,Hb,Hok',B3⟩:=hid6 hx hok hk hb hok' b3;clear b3 hok' hb hk hok hx
      go_wp2_with (go_at_call 113;((with_reducible refine(rtmWithin_at B3.out _).mono ?_);rintro e w1 ⟨rfl,rfl⟩))
      go_roundw
      case rel=>exact⟨j+1,false,by omega,by go_num,rfl,by rw [<-Hok'.out];rfl,Hk.out,Hb.out⟩
      case measure=>simp [intOf];omega
     ·rw [b3] at hok';obtain⟨Hx,Hok,Hk,Hb,Hok',B3⟩:=hid6 hx hok hk hb hok' b3;clear b3 hok' hb hk hok hx
      go_wp2_with (go_at_call 113;((with_reducible refine(rtmWithin_at B3.out _).mono ?_);rintro e w1 ⟨rfl,rfl⟩))
      go_roundw
      case rel=>exact⟨j+1,true,by omega,by go_num,rfl,by rw [<-Hok'.out];rfl,Hk.out,Hb.out⟩
      case measure=>simp [intOf];omega
   ·obtain rfl:j=n:=by omega
    rw [List.take_of_length_le (by rw [Hn.out];exact Nat.le_refl _)] at hok;have hf1:=Hf0.out;rw [<-hok] at hf1;have c2:wr.cell? ⟨w.heap.size,2,none⟩=some (.int .i64 cy):=Aa hb 2;have c3:wr.cell? ⟨w.heap.size,3,none⟩=some (.int .i64 du):=Aa hb 3;have c4:wr.cell? ⟨w.heap.size,4,none⟩=some (.int .i64 mf):=Aa hb 4;have c5:wr.cell? ⟨w.heap.size,5,none⟩=some (.int .i64 mp):=Aa hb 5;have c6:wr.cell? ⟨w.heap.size,6,none⟩=some (.int .i64 st):=Aa hb 6
    cases ok with
    |false=>
     have hf:Tm.err ⟨li,cy,du,mf,mp,st,L⟩=6:=by rw [hf1];simp
     obtain⟨Hok,Hk,Hb,Hf,Hf1⟩:=hid5 hok hk hb hf hf1;clear hf1 hf hb hk hok;go_wp2_with fail;go_ret;exact⟨by rw [Hf.out];rfl,Hk.out⟩
    |true=>
     rw [Bool.true_and] at hf1;rcases bc:inB cy 1 28 with _|_
     ·have hf:Tm.err ⟨li,cy,du,mf,mp,st,L⟩=6:=by rw [hf1,bc];simp
      obtain⟨Hok,Hk,Hb,Hf,Hf1,Bc⟩:=hid6 hok hk hb hf hf1 bc;clear bc hf1 hf hb hk hok
      go_wp2_with (go_at_call 113;((with_reducible refine(rtmWithin_at Bc.out _).mono ?_);rintro e w1 ⟨rfl,rfl⟩))
      exact yy5
     rcases bd:inB du 1 25 with _|_
     ·have hf:Tm.err ⟨li,cy,du,mf,mp,st,L⟩=6:=by rw [hf1,bd];simp
      obtain⟨Hok,Hk,Hb,Hf,Hf1,Bc,Bd⟩:=hid7 hok hk hb hf hf1 bc bd;clear bd bc hf1 hf hb hk hok
      go_wp2_with (first|(go_at_call 113;((with_reducible refine(rtmWithin_at Bc.out _).mono ?_);rintro e w1 ⟨rfl,rfl⟩))|(go_at_call 113;((with_reducible refine(rtmWithin_at Bd.out _).mono ?_);rintro e w1 ⟨rfl,rfl⟩)))
      exact yy5
     rcases bf:inB mf 0 1000000000000000 with _|_
     ·have hf:Tm.err ⟨li,cy,du,mf,mp,st,L⟩=6:=by rw [hf1,bf];simp
      obtain⟨Hok,Hk,Hb,Hf,Hf1,Bc,Bd,Bf⟩:=hid8 hok hk hb hf hf1 bc bd bf;clear bf bd bc hf1 hf hb hk hok
      go_wp2_with (first|(go_at_call 113;((with_reducible refine(rtmWithin_at Bc.out _).mono ?_);rintro e w1 ⟨rfl,rfl⟩))|(go_at_call 113;((with_reducible refine(rtmWithin_at Bd.out _).mono ?_);rintro e w1 ⟨rfl,rfl⟩))|(go_at_call 113;((with_reducible refine(rtmWithin_at Bf.out _).mono ?_);rintro e w1 ⟨rfl,rfl⟩)))
      exact yy5
     rcases bp:inB mp 0 1000 with _|_
     ·have hf:Tm.err ⟨li,cy,du,mf,mp,st,L⟩=6:=by rw [hf1,bp];simp
      obtain⟨Hok,Hk,Hb,Hf,Hf1,Bc,Bd,Bf,Bp⟩:=hid9 hok hk hb hf hf1 bc bd bf bp;clear bp bf bd bc hf1 hf hb hk hok
      go_wp2_with (first|(go_at_call 113;((with_reducible refine(rtmWithin_at Bc.out _).mono ?_);rintro e w1 ⟨rfl,rfl⟩))|(go_at_call 113;((with_reducible refine(rtmWithin_at Bd.out _).mono ?_);rintro e w1 ⟨rfl,rfl⟩))|(go_at_call 113;((with_reducible refine(rtmWithin_at Bf.out _).mono ?_);rintro e w1 ⟨rfl,rfl⟩))|(go_at_call 113;((with_reducible refine(rtmWithin_at Bp.out _).mono ?_);rintro e w1 ⟨rfl,rfl⟩)))
      exact yy5
     rcases bs:inB st (-135140) 2922896 with _|_
     ·have hf:Tm.err ⟨li,cy,du,mf,mp,st,L⟩=6:=by rw [hf1,bs];simp
      obtain⟨Hok,Hk,Hb,Hf,Hf1,Bc,Bd,Bf,Bp⟩:=hid9 hok hk hb hf hf1 bc bd bf bp;clear bp bf bd bc hf1 hf hb hk hok;have Bs:=Lib.hid bs;clear bs
      go_wp2_with (first|(go_at_call 113;((with_reducible refine(rtmWithin_at Bc.out _).mono ?_);rintro e w1 ⟨rfl,rfl⟩))|(go_at_call 113;((with_reducible refine(rtmWithin_at Bd.out _).mono ?_);rintro e w1 ⟨rfl,rfl⟩))|(go_at_call 113;((with_reducible refine(rtmWithin_at Bf.out _).mono ?_);rintro e w1 ⟨rfl,rfl⟩))|(go_at_call 113;((with_reducible refine(rtmWithin_at Bp.out _).mono ?_);rintro e w1 ⟨rfl,rfl⟩))|(go_at_call 113;((with_reducible refine(rtmWithin_at Bs.out _).mono ?_);rintro e w1 ⟨rfl,rfl⟩)))
      exact yy5
     have hf:Tm.err ⟨li,cy,du,mf,mp,st,L⟩=0:=by rw [hf1,bc,bd,bf,bp,bs];simp
     obtain⟨Hok,Hk,Hb,Hf,Hf1,Bc,Bd,Bf,Bp⟩:=hid9 hok hk hb hf hf1 bc bd bf bp;clear bp bf bd bc hf1 hf hb hk hok;have Bs:=Lib.hid bs;clear bs
     go_wp2_with (first|(go_at_call 113;((with_reducible refine(rtmWithin_at Bc.out _).mono ?_);rintro e w1 ⟨rfl,rfl⟩))|(go_at_call 113;((with_reducible refine(rtmWithin_at Bd.out _).mono ?_);rintro e w1 ⟨rfl,rfl⟩))|(go_at_call 113;((with_reducible refine(rtmWithin_at Bf.out _).mono ?_);rintro e w1 ⟨rfl,rfl⟩))|(go_at_call 113;((with_reducible refine(rtmWithin_at Bp.out _).mono ?_);rintro e w1 ⟨rfl,rfl⟩))|(go_at_call 113;((with_reducible refine(rtmWithin_at Bs.out _).mono ?_);rintro e w1 ⟨rfl,rfl⟩)))
     go_ret;exact⟨by rw [Hf.out];rfl,Hk.out⟩
theorem rtmRight_bigAt(t:Tm)(v:Value)(w:World){z:Int}(hz:t.err=z)(hr:Reads w 2 v t.trs.length (t.trs.flatMap Tn.cells))(hl:t.trs.length<=9223372036854775807):
  Calls Tryz.prog 63 #[.agg #[.int .i64 t.limit,v,.int .i64 t.cyc,.int .i64 t.due,.int .i64 t.minFixed,.int .i64 t.minPart,.int .i64 t.start]] w λe w'=>e= .returned (.int .i64 z)/\Keeps (λ_=>False) w w':=by
 have hr':=hr;obtain⟨ad,c,rfl,_⟩:=hr';subst hz;exact rtmRight_big t ad c w hr hl
theorem store7{W:World}{R:Nat}{t:TypeId}{a0 a1 a2 a3 a4 a5 a6:Value}(h:W.heap[R]?=some (.cells #[a0,a1,a2,a3,a4,a5,a6] t (0,0)))(v0 v1 v2 v3 v4 v5 v6:Value):
  (((((((W.setCell ⟨R,0,none⟩ v0).setCell ⟨R,1,none⟩ v1).setCell ⟨R,2,none⟩ v2).setCell ⟨R,3,none⟩ v3).setCell ⟨R,4,none⟩ v4).setCell ⟨R,5,none⟩ v5).setCell ⟨R,6,none⟩ v6).heap[R]?=some (.cells #[v0,v1,v2,v3,v4,v5,v6] t (0,0))/\Keeps (λi=>i=R) W (((((((W.setCell ⟨R,0,none⟩ v0).setCell ⟨R,1,none⟩ v1).setCell ⟨R,2,none⟩ v2).setCell ⟨R,3,none⟩ v3).setCell ⟨R,4,none⟩ v4).setCell ⟨R,5,none⟩ v5).setCell ⟨R,6,none⟩ v6):=by
 have h0:(W.setCell ⟨R,0,none⟩ v0).heap[R]?=some (.cells #[v0,a1,a2,a3,a4,a5,a6] t (0,0)):=(heap_setCell_same _ _ 0 _ _ _ h).trans rfl;have h1:((W.setCell ⟨R,0,none⟩ v0).setCell ⟨R,1,none⟩ v1).heap[R]?=some (.cells #[v0,v1,a2,a3,a4,a5,a6] t (0,0)):=(heap_setCell_same _ _ 1 _ _ _ h0).trans rfl;have h2:(((W.setCell ⟨R,0,none⟩ v0).setCell ⟨R,1,none⟩ v1).setCell ⟨R,2,none⟩ v2).heap[R]?=some (.cells #[v0,v1,v2,a3,a4,a5,a6] t (0,0)):=(heap_setCell_same _ _ 2 _ _ _ h1).trans rfl;have h3:((((W.setCell ⟨R,0,none⟩ v0).setCell ⟨R,1,none⟩ v1).setCell ⟨R,2,none⟩ v2).setCell ⟨R,3,none⟩ v3).heap[R]?=some (.cells #[v0,v1,v2,v3,a4,a5,a6] t (0,0)):=(heap_setCell_same _ _ 3 _ _ _ h2).trans rfl;have h4:(((((W.setCell ⟨R,0,none⟩ v0).setCell ⟨R,1,none⟩ v1).setCell ⟨R,2,none⟩ v2).setCell ⟨R,3,none⟩ v3).setCell ⟨R,4,none⟩ v4).heap[R]?=some (.cells #[v0,v1,v2,v3,v4,a5,a6] t (0,0)):=(heap_setCell_same _ _ 4 _ _ _ h3).trans rfl;have h5:((((((W.setCell ⟨R,0,none⟩ v0).setCell ⟨R,1,none⟩ v1).setCell ⟨R,2,none⟩ v2).setCell ⟨R,3,none⟩ v3).setCell ⟨R,4,none⟩ v4).setCell ⟨R,5,none⟩ v5).heap[R]?=some (.cells #[v0,v1,v2,v3,v4,v5,a6] t (0,0)):=(heap_setCell_same _ _ 5 _ _ _ h4).trans rfl;have h6:(((((((W.setCell ⟨R,0,none⟩ v0).setCell ⟨R,1,none⟩ v1).setCell ⟨R,2,none⟩ v2).setCell ⟨R,3,none⟩ v3).setCell ⟨R,4,none⟩ v4).setCell ⟨R,5,none⟩ v5).setCell ⟨R,6,none⟩ v6).heap[R]?=some (.cells #[v0,v1,v2,v3,v4,v5,v6] t (0,0)):=(heap_setCell_same _ _ 6 _ _ _ h5).trans rfl;have k0:Keeps (λi=>i=R) W (W.setCell ⟨R,0,none⟩ v0):=Keeps.setCell _ _ _ rfl;have k1:=k0.trans (Keeps.setCell (S:=λj=>j=R\/W.heap.size<=j) (W.setCell ⟨R,0,none⟩ v0) ⟨R,1,none⟩ v1 (.inl rfl));have k2:=k1.trans (Keeps.setCell (S:=λj=>j=R\/W.heap.size<=j) ((W.setCell ⟨R,0,none⟩ v0).setCell ⟨R,1,none⟩ v1) ⟨R,2,none⟩ v2 (.inl rfl));have k3:=k2.trans (Keeps.setCell (S:=λj=>j=R\/W.heap.size<=j) (((W.setCell ⟨R,0,none⟩ v0).setCell ⟨R,1,none⟩ v1).setCell ⟨R,2,none⟩ v2) ⟨R,3,none⟩ v3 (.inl rfl));have k4:=k3.trans (Keeps.setCell (S:=λj=>j=R\/W.heap.size<=j) ((((W.setCell ⟨R,0,none⟩ v0).setCell ⟨R,1,none⟩ v1).setCell ⟨R,2,none⟩ v2).setCell ⟨R,3,none⟩ v3) ⟨R,4,none⟩ v4 (.inl rfl));have k5:=k4.trans (Keeps.setCell (S:=λj=>j=R\/W.heap.size<=j) (((((W.setCell ⟨R,0,none⟩ v0).setCell ⟨R,1,none⟩ v1).setCell ⟨R,2,none⟩ v2).setCell ⟨R,3,none⟩ v3).setCell ⟨R,4,none⟩ v4) ⟨R,5,none⟩ v5 (.inl rfl));have k6:=k5.trans (Keeps.setCell (S:=λj=>j=R\/W.heap.size<=j) ((((((W.setCell ⟨R,0,none⟩ v0).setCell ⟨R,1,none⟩ v1).setCell ⟨R,2,none⟩ v2).setCell ⟨R,3,none⟩ v3).setCell ⟨R,4,none⟩ v4).setCell ⟨R,5,none⟩ v5) ⟨R,6,none⟩ v6 (.inl rfl));exact⟨h6,k6⟩
def pF(x:Tn):Tn:=⟨uq x.rate 3000000,x.grace⟩
structure PtAt(w2:World)(B b3:Nat)(E0 E2:Array Value)(l c d f p st:Int)(L:List Tn)(i:Nat)(v:Value)(wx:World):Prop where
 h0:wx.heap[B]?=some (.cells E0 44 (0,0))
 h2:wx.heap[B+1]?=some (.cells E2 44 (0,0))
 h3:wx.heap[b3]?=some (.cells #[.int .i64 l,v,.int .i64 c,.int .i64 d,.int .i64 f,.int .i64 p,.int .i64 st] 44 (0,0))
 row:wx.ownsRow 0 120 2 v i (((L.take i).map pF).flatMap Tn.cells)
 nw:∀g,v.ownBlock=some g->w2.heap.size<=g
 kp:Keeps (λi=>i=b3) w2 wx
theorem PtAt.app{w2:World}{B b3:Nat}{E0 E2:Array Value}{l c d f p st:Int}{L:List Tn}{i:Nat}{v v9:Value}{wx w8 w9:World}{x:Tn}(h:PtAt w2 B b3 E0 E2 l c d f p st L i v wx)(hB:¬B=b3)(hB1:¬B+1=b3)(hx:L[i]?=some x)(hk8:Keeps (λ_=>False) wx w8)(hr:w9.ownsRow 0 120 2 v9 (i+1) (((L.take i).map pF).flatMap Tn.cells++(pF x).cells))
  (hk:Keeps (λk=>v.ownBlock=some k) w8 w9) (hf:v9.ownBlock=v.ownBlock\/∃g,v9.ownBlock=some g/\w8.heap.size<=g):PtAt w2 B b3 E0 E2 l c d f p st L (i+1) v9 (w9.setCell ⟨b3,1,none⟩ v9):=by
 have hv:∀{b:Nat} {cs:Array Value},wx.heap[b]?=some (.cells cs 44 (0,0))->¬v.ownBlock=some b:=λhb=>Ai h.row hb yy1;have kb:Keeps (λi=>i=b3) w9 (w9.setCell ⟨b3,1,none⟩ v9):=Keeps.setCell _ _ _ rfl;have c0:=Ad (Ad (Ad h.h0 hk8 (by simp)) hk (hv h.h0)) kb hB;have c2:=Ad (Ad (Ad h.h2 hk8 (by simp)) hk (hv h.h2)) kb hB1;have c3:=Ad (Ad h.h3 hk8 (by simp)) hk (hv h.h3)
 have hne:∀k,v9.ownBlock=some k->¬k=b3:=λk hk' e=>by
  subst e;exact Ai hr c3 yy1 hk'
 refine⟨c0,c2,(heap_setCell_same _ _ 1 _ _ _ c3).trans rfl, ?_, ?_, ?_⟩
 ·rw [take_snoc' hx,List.map_append,List.flatMap_append]
  simpa using kb.row hr hne
 ·intro g hg;rcases hf with e|⟨g',e1,e2⟩
  ·rw [e] at hg;exact h.nw g hg
  ·rw [e1] at hg;injection hg with hg;have:=h.kp.size;have:=hk8.size;omega
 ·exact((h.kp.trans (hk8.mono (by simp))).trans (hk.mono λi _ e=> .inr (h.nw i e))).trans (kb.mono λi _ e=> .inl e)
def pt8(b3 B:Nat)(v vs:Value)(g o:Nat)(r:Int)(gr:Bool)(W:World):Prop:=W.cell? ⟨b3,1,none⟩=some v/\W.cell? ⟨B,1,none⟩=some vs/\W.cell? ⟨g,o,none⟩=some (.int .i64 r)/\W.cell? ⟨g,o+1,none⟩=some (.bool gr)
theorem pt8.keep{b3 B:Nat}{v vs:Value}{g o:Nat}{r:Int}{gr:Bool}{W W':World}{S:Nat->Prop}(h:pt8 b3 B v vs g o r gr W)(hk:Keeps S W W')(h1:¬S b3)(h2:¬S B)(h3:¬S g):pt8 b3 B v vs g o r gr W':=
 ⟨(hk.cell (Ag h.1) h1).trans h.1,(hk.cell (Ag h.2.1) h2).trans h.2.1,(hk.cell (Ag h.2.2.1) h3).trans h.2.2.1,(hk.cell (Ag h.2.2.2) h3).trans h.2.2.2⟩
theorem playTerms_any(t:Tm)(adt:Option Addr)(ct n:Nat)(w:World)(hn:t.trs.length=n)(htr:Reads w 2 (.slice adt n ct) n (t.trs.flatMap Tn.cells))(htl:n<=9223372036854775807):
  Calls Tryz.prog 34 #[.agg #[.int .i64 t.limit,.slice adt n ct,.int .i64 t.cyc,.int .i64 t.due,.int .i64 t.minFixed,.int .i64 t.minPart,.int .i64 t.start]] w λe w'=>∃v,e= .returned (.agg #[.int .i64 (playT t).limit,v,.int .i64 (playT t).cyc,.int .i64 (playT t).due,.int .i64 (playT t).minFixed,.int .i64 (playT t).minPart,.int .i64 (playT t).start])/\Reads w' 2 v (playT t).trs.length ((playT t).trs.flatMap Tn.cells)/\Keeps (λ_=>False) w w'/\(v= .slice adt n ct\/∀g,v.ownBlock=some g->w.heap.size<=g):=by
 obtain⟨i0,hi,hi0,hi1,hi2⟩:=info_parts Ab6;obtain⟨q,hq⟩:∃q,uq t.start 400=q:=⟨_,rfl⟩;have hu0:∀x,0<=IntKind.u64.wrap x:=λx=>by rw [IntKind.wrap_u64];omega
 have hqt:(IntKind.u64.wrap t.start).tmod 400=q:=by rw [Int.tmod_eq_emod_of_nonneg (hu0 _)];exact hq
 obtain⟨q0,q1⟩:=uq_bd t.start (m:=400) yy1;rw [hq] at q0 q1;have hrt:=λW (hW:Keeps (λ_=>False) w W)=>rtmRight_bigAt { t with start:=10957+q } (.slice adt n ct) W rfl (by rw [<-hn] at *;exact htr.keeps hW (by simp)) (by rw [<-hn] at htl;exact htl);obtain⟨E,hE⟩:∃E,({ t with start:=10957+q }:Tm).err=E:=⟨_,rfl⟩;rw [hE] at hrt;have hE2:=Tm.err_or { t with start:=10957+q };rw [hE] at hE2;dsimp only at hrt;obtain⟨Z,hZ⟩:∃Z,playT t=Z:=⟨_,rfl⟩;have hZ2:=hZ;unfold playT at hZ2;rw [hq,hE] at hZ2;rw [hZ];obtain⟨Hi,Hi0,Hi1,Hi2,Hq,Hrt,HE,HZ,Hu0⟩:=hid9 hi hi0 hi1 hi2 hq hrt hE hZ hu0;clear hu0 hZ hE hrt hq hi2 hi1 hi0 hi;obtain⟨Htr,Hn,HZ2⟩:=hid3 htr hn hZ2;clear hZ2 hn htr;go_enter Tryz.func34,Tryz.ntmps34;go_wp2_with fail;refine(Hrt.out _ ye).mono ?_;rintro e w1 ⟨rfl,hk1⟩;have hb0:=Ad (Ao (heap_alloc_new w _) _) hk1 (by simp);have hb2:=Mr hk1 (by simp);rw [World.size_alloc] at hb2;have hk0:Keeps (λ_=>False) w w1:=Keeps.nt ye hk1;clear hk1;rcases hE2 with rfl|rfl
 ·have hZ3:=HZ2.out;rw [if_pos rfl] at hZ3;have t0:=Aa (hb0) 0;have t1:=Aa (hb0) 1;have t2:=Aa (hb0) 2;have t3:=Aa (hb0) 3;have t4:=Aa (hb0) 4;have t5:=Aa (hb0) 5;have t6:=Aa (hb0) 6;have tl:=lt_of_block (hb0);have s0:=Aa (hb2) 0;have s1:=Aa (hb2) 1;have s2:=Aa (hb2) 2;have s3:=Aa (hb2) 3;have s4:=Aa (hb2) 4;have s5:=Aa (hb2) 5;have s6:=Aa (hb2) 6;have sl:=lt_of_block (hb2);have f0:=Ab (hb2) 0;have f1:=Ab (hb2) 1;have f2:=Ab (hb2) 2;have f3:=Ab (hb2) 3;have f4:=Ab (hb2) 4;have f5:=Ab (hb2) 5;have f6:=Ab (hb2) 6;obtain⟨hb3,hk3⟩:=store7 hb2 (.int .i64 t.limit) (.slice adt n ct) (.int .i64 t.cyc) (.int .i64 t.due) (.int .i64 t.minFixed) (.int .i64 t.minPart) (.int .i64 (10957+q));have hkz:=hk0.trans (hk3.mono λi _ e=> .inr (by have e':i=w.heap.size+1:=e;omega));have hrz:∀W,Keeps (λ_=>False) w W->Reads W 2 (.slice adt n ct) Z.trs.length (Z.trs.flatMap Tn.cells):=λW hW=>by rw [<-hZ3];show Reads W 2 _ t.trs.length (t.trs.flatMap Tn.cells);rw [Hn.out];exact Htr.out.keeps hW (by simp)
  obtain⟨Hb0,Hb2,Hk0,HZ3,Hb3,Hk3,Hkz,Hrz⟩:=hid8 hb0 hb2 hk0 hZ3 hb3 hk3 hkz hrz;clear hrz hkz hk3 hb3 hZ3 hk0 hb2 hb0;go_wp2;clear s0 s1 s2 s3 s4 s5 s6;have r0:=Aa (Hb3.out) 0;have r1:=Aa (Hb3.out) 1;have r2:=Aa (Hb3.out) 2;have r3:=Aa (Hb3.out) 3;have r4:=Aa (Hb3.out) 4;have r5:=Aa (Hb3.out) 5;have r6:=Aa (Hb3.out) 6;exact bodyPost_ret (v:= .agg #[.int .i64 (t.limit),.slice adt n ct,.int .i64 (t.cyc),.int .i64 (t.due),.int .i64 (t.minFixed),.int .i64 (t.minPart),.int .i64 (10957+q)]) yc rfl ⟨.slice adt n ct,by rw [<-HZ3.out],Hrz.out _ Hkz.out,Hkz.out,.inl rfl⟩
 ·have hZ3:=HZ2.out;rw [if_neg yy1] at hZ3;obtain⟨ul,hul⟩:∃z,uq t.limit 100000=z:=⟨_,rfl⟩;have tul:(IntKind.u64.wrap t.limit).tmod 100000=ul:=by rw [Int.tmod_eq_emod_of_nonneg (Hu0.out _)];exact hul
  have bul:=uq_bd t.limit (m:=100000) yy1;rw [hul] at bul;obtain⟨bul0,bul1⟩:=bul;obtain⟨uc,huc⟩:∃z,uq t.cyc 28=z:=⟨_,rfl⟩;have tuc:(IntKind.u64.wrap t.cyc).tmod 28=uc:=by rw [Int.tmod_eq_emod_of_nonneg (Hu0.out _)];exact huc
  have buc:=uq_bd t.cyc (m:=28) yy1;rw [huc] at buc;obtain⟨buc0,buc1⟩:=buc;obtain⟨ud,hud⟩:∃z,uq t.due 25=z:=⟨_,rfl⟩;have tud:(IntKind.u64.wrap t.due).tmod 25=ud:=by rw [Int.tmod_eq_emod_of_nonneg (Hu0.out _)];exact hud
  have bud:=uq_bd t.due (m:=25) yy1;rw [hud] at bud;obtain⟨bud0,bud1⟩:=bud;obtain⟨uf,huf⟩:∃z,uq t.minFixed 100=z:=⟨_,rfl⟩;have tuf:(IntKind.u64.wrap t.minFixed).tmod 100=uf:=by rw [Int.tmod_eq_emod_of_nonneg (Hu0.out _)];exact huf
  have buf:=uq_bd t.minFixed (m:=100) yy1;rw [huf] at buf;obtain⟨buf0,buf1⟩:=buf;obtain⟨up,hup⟩:∃z,uq t.minPart 101=z:=⟨_,rfl⟩;have tup:(IntKind.u64.wrap t.minPart).tmod 101=up:=by rw [Int.tmod_eq_emod_of_nonneg (Hu0.out _)];exact hup
  have bup:=uq_bd t.minPart (m:=101) yy1;rw [hup] at bup;obtain⟨bup0,bup1⟩:=bup;rw [hul,huc,hud,huf,hup] at hZ3;obtain⟨B,hBe⟩:∃x,x=w.heap.size:=⟨_,rfl⟩;obtain⟨b3,hb3e⟩:∃x,x=w1.heap.size:=⟨_,rfl⟩;have hs0:B+1<b3:=by rw [hBe,hb3e];exact lt_of_block hb2
  rw [<-hBe] at hb0 hb2;obtain⟨w2,hw2⟩:∃x,x=w1.alloc (.cells #[.int .i64 ul,.slice none 0 0,.int .i64 (1+uc),.int .i64 (1+ud),.int .i64 uf,.int .i64 up,.int .i64 (10957+q)] 44):=⟨_,rfl⟩
  have hst:PtAt w2 B b3 #[.int .i64 t.limit,.slice adt n ct,.int .i64 t.cyc,.int .i64 t.due,.int .i64 t.minFixed,.int .i64 t.minPart,.int .i64 (10957+q)] #[.int .i64 0,.slice none 0 0,.int .i64 0,.int .i64 0,.int .i64 0,.int .i64 0,.int .i64 0] ul (1+uc) (1+ud) uf up (10957+q) t.trs 0 (.slice none 0 0) w2:=
   ⟨by rw [hw2];exact Ao hb0 _,by rw [hw2];exact Ao hb2 _,by rw [hw2,hb3e];exact heap_alloc_new w1 _,World.ownsRow_nil _ _ _ _,by simp [Value.ownBlock],Keeps.refl _ _⟩
  have hk2:Keeps (λ_=>False) w w2:=by rw [hw2];exact hk0.nt (Keeps.alloc _ _)
  have hb3w:w.heap.size<=b3:=by rw [<-hBe];omega
  have hb3s:b3<w2.heap.size:=lt_of_block hst.h3;rw [<-hBe];have t0:=Aa (hb0) 0;have t1:=Aa (hb0) 1;have t2:=Aa (hb0) 2;have t3:=Aa (hb0) 3;have t4:=Aa (hb0) 4;have t5:=Aa (hb0) 5;have t6:=Aa (hb0) 6;have tl:=lt_of_block (hb0);obtain⟨Hb0,Hb2,Hk0,HZ3,Hul,Huc,Hud,Huf,Hup⟩:=hid9 hb0 hb2 hk0 hZ3 hul huc hud huf hup;clear hup huf hud huc hul hZ3 hk0 hb2 hb0;obtain⟨Hst,Hk2,HBe,Hs0,Hb3w,Hb3s⟩:=hid6 hst hk2 hBe hs0 hb3w hb3s;clear hb3s hb3w hs0 hBe hk2 hst;go_wp2;rw [<-hw2];clear hw2 t0 t1 t2 t3 t4 t5 t6 tl;rw [<-hb3e];clear hb3e
  go_loopw [4] (λx wx=>∃(i:Nat) (v:Value),x= .int .i64 (i:Nat)/\i<=n/\i<=8/\PtAt w2 B b3 #[.int .i64 t.limit,.slice adt n ct,.int .i64 t.cyc,.int .i64 t.due,.int .i64 t.minFixed,.int .i64 t.minPart,.int .i64 (10957+q)] #[.int .i64 0,.slice none 0 0,.int .i64 0,.int .i64 0,.int .i64 0,.int .i64 0,.int .i64 0] ul (1+uc) (1+ud) uf up (10957+q) t.trs i v wx) (λx _=>8-(intOf x).toNat)
  case atStart=>exact⟨0,_,rfl,Nat.zero_le _,Nat.zero_le _,Hst.out⟩
  case round=>
   obtain⟨i,v,rfl,hin,hi8,hat⟩:=hrel;obtain⟨wq,hwq⟩:∃x,x=wr:=⟨_,rfl⟩;subst hwq;obtain⟨av,cv,rfl⟩:∃a c,v= .slice a i c:=by obtain⟨a,c,h,_⟩:=Af hat.row;exact⟨a,c,h⟩
   have hkq:Keeps (λ_=>False) w wq:=Hk2.out.trans (hat.kp.mono λi _ e=> .inr (by have e':i=b3:=e;have:=Hb3w.out;omega));by_cases hlt:i<n/\i<8
   ·have hltI:(i:Int)<(n:Int):=yy2;have hlt8:(i:Int)<8:=yy2;obtain⟨x,hx⟩:=Ar (L:=t.trs) (k:=i) (by rw [Hn.out];exact hlt.1);obtain⟨g,o,c',he,hc⟩:=(Htr.out.keeps hkq (by simp)).elem Tn.Aj hx yy1;simp only [Value.slice.injEq,true_and] at he;obtain⟨rfl,rfl⟩:=he;obtain⟨xr,xg⟩:=x;have x0:wq.cell? ⟨g,o+i*2,none⟩=some (.int .i64 xr):=hc 0 yy1;have x1:wq.cell? ⟨g,o+i*2+1,none⟩=some (.bool xg):=hc 1 yy1;clear hc;obtain⟨ur,hur⟩:∃z,uq xr 3000000=z:=⟨_,rfl⟩;have tur:(IntKind.u64.wrap xr).tmod 3000000=ur:=by rw [Int.tmod_eq_emod_of_nonneg (Hu0.out _)];exact hur
    have bur:=uq_bd xr (m:=3000000) yy1;rw [hur] at bur;obtain⟨bur0,bur1⟩:=bur;have hwr:IntKind.i64.wrap ur=ur:=by rw [IntKind.wrap_i64];omega
    have hS:pt8 b3 B (.slice av i cv) (.slice (some ⟨g,o,none⟩) n ct) g (o+i*2) xr xg wq.drew:=(show pt8 b3 B (.slice av i cv) (.slice (some ⟨g,o,none⟩) n ct) g (o+i*2) xr xg wq from⟨Aa hat.h3 1,Aa hat.h0 1,x0,x1⟩).keep (S:=λ_=>False) (Keeps.drew _) (by simp) (by simp) (by simp);have hne3:¬(Value.slice av i cv).ownBlock=some b3:=Ai hat.row hat.h3 yy1;have hneB:¬(Value.slice av i cv).ownBlock=some B:=Ai hat.row hat.h0 yy1
    have hneg:¬(Value.slice av i cv).ownBlock=some g:=λe=>by
     have h1:=hat.nw g e;have h2:=Htr.out.lt (λe=>by rw [List.flatMap_eq_nil_iff] at e;have:=e _ (List.mem_of_getElem? hx);simp [Tn.cells] at this);obtain⟨g',e1,e2⟩:=h2;simp only [Value.ownBlock,Option.some.injEq] at e1;have:=Hk2.out.size;omega
    have hbB:=lt_of_block hat.h0;have hb3q:=lt_of_block hat.h3;have hgl:=Ag x0;have c01:=Aa hat.h0 1;obtain⟨Hat,Hkq,Hx,Hur,HS,Hlt⟩:=hid6 hat hkq hx hur hS hlt;clear hlt hS hur hx hkq hat;go_wp2_with fail;clear x0 x1 c01;refine Cf (pt8 b3 B (.slice av i cv) (.slice (some ⟨g,o,none⟩) n ct) g (o+i*2) xr xg) 21 (.take 0 (.take 1 (.take 2 (.take 3 (.take 4 (.take 5 (.take 6 (.take 7 (.take 8 (.take 9 (.take 10 (.take 11 (.take 12 (.take 13 (.take 14 (.take 15 (.take 16 (.take 17 (.move 18 (.move 19 (.take 20 (.move 21 .done)))))))))))))))))))))) yy3 yy3 ?_ ?_
    ·exact HS.out
    intro w8 hs8 hk8;refine jR ?_;refine Ah rfl (λK hK=> ?_);go_simp;refine hK.out _ _ (by exact hs8.keep (S:=λ_=>False) (Keeps.alloc _ _) (by simp) (by simp) (by simp)) ?_;clear hK K
    try simp only [aps]
    have hk8a:=hk8.nt (Keeps.alloc w8 (.cells #[.int .i64 ur,.bool xg] 120));have hrow8:=Hat.out.row.of_keeps hk8a;refine Ah rfl (λK hK=> ?_);refine Bw rfl (.tmp 58) (.tmp 75) 42 rfl 0 120 i0 _ 2 16 Tryz.underlying42 Hi.out Hi0.out Hi1.out Hi2.out rfl yy1 (.slice av i cv) i _ rfl hrow8 _ 1 _ rfl (Reads.litAt _ _ _ 2 1 _ (by first|rfl|simp) rfl) (by simp [Value.oneCell']) yy4 yy0 (Nat.zero_le _) ?_;intro v9 w9 hown9 hk9 hf9;obtain⟨a9,c9,rfl,_,_⟩:=Af hown9;have happ:=Hat.out.app (by have:=Hs0.out;omega) (by have:=Hs0.out;omega) Hx.out hk8a (by unfold pF;rw [Hur.out];exact hown9) hk9 hf9;have hb39:=Ad (Ad Hat.out.h3 hk8a (by simp)) hk9 hne3;have o1:=Aa hb39 1;have f1:=Ab hb39 1;have l1:=lt_of_block hb39;refine hK.out _ _ (by exact(hs8.keep (S:=λ_=>False) (Keeps.alloc _ _) (by simp) (by simp) (by simp)).keep hk9 hne3 hneB hneg) ?_;clear hK K
    try simp only [aps]
    clear hs8;obtain⟨Hk8a,Hrow8,Happ,Hb39,Hown9,Hk9,Hk8⟩:=hid7 hk8a hrow8 happ hb39 hown9 hk9 hk8;clear hk8 hk9 hown9 hb39 happ hrow8 hk8a;refine jR ?_;refine Cj rfl (λK hK=> ?_);go_simp;refine hK.out _ _ ?_;clear hK K
    try simp only [aps]
    refine Ap ?_;clear o1 f1 l1;go_wp2_with fail;go_roundw
    case rel=>exact⟨i+1,_,by go_num,by have:=Hlt.out;omega,by have:=Hlt.out;omega,Happ.out⟩
    case measure=>simp [intOf];omega
   ·have hmap:(t.trs.take i).map pF=(t.trs.take 8).map pF:=by
     by_cases h8:i=8
     ·rw [h8]
     ·have:n=i:=yy2;rw [List.take_of_length_le (by rw [Hn.out];omega),List.take_of_length_le (by rw [Hn.out];omega)]
    have hlen:((t.trs.take 8).map pF).length=i:=by rw [<-hmap,List.length_map,List.length_take,Hn.out];omega
    have hpl:playTrs t.trs=if(t.trs.take 8).map pF= [] then [⟨500000,false⟩] else(t.trs.take 8).map pF:=rfl;have hrow:=hat.row;rw [hmap] at hrow;have c01:=Aa hat.h0 1;have hbB:=lt_of_block hat.h0;by_cases h0:i=0
    ·subst h0;have hn0:¬((0:Nat):Int)<(n:Int):=yy2;rw [if_pos (List.eq_nil_of_length_eq_zero hlen)] at hpl;have hZ4:=HZ3.out;rw [hpl] at hZ4;have o1:=Aa hat.h3 1;have f1:=Ab hat.h3 1;have l1:=lt_of_block hat.h3;obtain⟨W4,hW4⟩:∃x,x=(wq.setCell ⟨b3,1,none⟩ (.slice (some ⟨wq.heap.size,0,none⟩) 1 1)).alloc (.cells #[.int .i64 500000,.bool false] 120):=⟨_,rfl⟩;have hk4:Keeps (λi=>i=b3) wq W4:=by rw [hW4];exact(Keeps.setCell (S:=λi=>i=b3) wq _ _ rfl).trans (Keeps.alloc _ _)
     have hb34:W4.heap[b3]?=some (.cells #[.int .i64 ul,.slice (some ⟨wq.heap.size,0,none⟩) 1 1,.int .i64 (1+uc),.int .i64 (1+ud),.int .i64 uf,.int .i64 up,.int .i64 (10957+q)] 44 (0,0)):=by rw [hW4];exact Ao ((heap_setCell_same _ _ 1 _ _ _ hat.h3).trans rfl) _
     have hb24:=Ad hat.h2 hk4 (by have:=Hs0.out;omega)
     have hrd4:Reads W4 2 (.slice (some ⟨wq.heap.size,0,none⟩) 1 1) 1 ([(⟨500000,false⟩:Tn)].flatMap Tn.cells):=by
      rw [hW4];exact Reads.litAt (n:=1) _ #[.int .i64 500000,.bool false] _ 2 _ (by simp) rfl
     have hkw4:Keeps (λ_=>False) w W4:=hkq.trans (hk4.mono λi _ e=> .inr (by have e':i=b3:=e;have:=Hb3w.out;omega));obtain⟨Hat,Hkq,Hmap,Hlen,Hpl,Hrow,Hlt,HZ4,Hk4⟩:=hid9 hat hkq hmap hlen hpl hrow hlt hZ4 hk4;clear hk4 hZ4 hlt hrow hpl hlen hmap hkq hat;obtain⟨Hb34,Hb24,Hrd4,Hkw4⟩:=hid4 hb34 hb24 hrd4 hkw4;clear hkw4 hrd4 hb24 hb34
     go_upto_region 11 with fail
     rw [<-hW4];clear hW4 o1 f1 l1;have t0:=Aa (Hb34.out) 0;have t1:=Aa (Hb34.out) 1;have t2:=Aa (Hb34.out) 2;have t3:=Aa (Hb34.out) 3;have t4:=Aa (Hb34.out) 4;have t5:=Aa (Hb34.out) 5;have t6:=Aa (Hb34.out) 6;have tl:=lt_of_block (Hb34.out);have s0:=Aa (Hb24.out) 0;have s1:=Aa (Hb24.out) 1;have s2:=Aa (Hb24.out) 2;have s3:=Aa (Hb24.out) 3;have s4:=Aa (Hb24.out) 4;have s5:=Aa (Hb24.out) 5;have s6:=Aa (Hb24.out) 6;have sl:=lt_of_block (Hb24.out);have f0:=Ab (Hb24.out) 0;have f1:=Ab (Hb24.out) 1;have f2:=Ab (Hb24.out) 2;have f3:=Ab (Hb24.out) 3;have f4:=Ab (Hb24.out) 4;have f5:=Ab (Hb24.out) 5;have f6:=Ab (Hb24.out) 6;obtain⟨hb5,hk5⟩:=store7 (Hb24.out) (.int .i64 ul) (.slice (some ⟨wq.heap.size,0,none⟩) 1 1) (.int .i64 (1+uc)) (.int .i64 (1+ud)) (.int .i64 uf) (.int .i64 up) (.int .i64 (10957+q));have hkz:=(Hkw4.out).trans (hk5.mono λi _ e=> .inr (by have e':i=B+1:=e;have:=HBe.out;omega));have hrz:Reads _ 2 (.slice (some ⟨wq.heap.size,0,none⟩) 1 1) Z.trs.length (Z.trs.flatMap Tn.cells):=(by rw [<-HZ4.out];exact Hrd4.out.keeps hk5 (λg hg e=>by simp only [Value.ownBlock,Option.some.injEq] at hg;have e':g=B+1:=e;have:=lt_of_block Hat.out.h2;omega));obtain⟨Hb5,Hk5,Hkz,Hrz⟩:=hid4 hb5 hk5 hkz hrz;clear hrz hkz hk5 hb5;go_wp2;clear s0 s1 s2 s3 s4 s5 s6;have r0:=Aa (Hb5.out) 0;have r1:=Aa (Hb5.out) 1;have r2:=Aa (Hb5.out) 2;have r3:=Aa (Hb5.out) 3;have r4:=Aa (Hb5.out) 4;have r5:=Aa (Hb5.out) 5;have r6:=Aa (Hb5.out) 6;exact bodyPost_ret (v:= .agg #[.int .i64 ul,.slice (some ⟨wq.heap.size,0,none⟩) 1 1,.int .i64 (1+uc),.int .i64 (1+ud),.int .i64 uf,.int .i64 up,.int .i64 (10957+q)]) yc rfl ⟨.slice (some ⟨wq.heap.size,0,none⟩) 1 1,by rw [<-HZ4.out],Hrz.out,Hkz.out,.inr (λg hg=>by simp only [Value.ownBlock,Option.some.injEq] at hg;have:=Hkq.out.size;omega)⟩
    ·have hi0:((i:Int)==0)=false:=beq_eq_false_iff_ne.2 yy0;rw [if_neg (λe=>by rw [e] at hlen;simp at hlen;omega)] at hpl;have hZ4:=HZ3.out;rw [hpl] at hZ4;have hrd4:Reads wq 2 (.slice av i cv) ((t.trs.take 8).map pF).length (((t.trs.take 8).map pF).flatMap Tn.cells):=by rw [hlen];exact Reads.Ay hrow
     have hnb:¬(Value.slice av i cv).ownBlock=some (B+1):=Ai hat.row hat.h2 yy1;by_cases h8:i<n
     ·have hltI:(i:Int)<(n:Int):=yy2;have hlt8:¬(i:Int)<8:=yy2;exact yf
     ·have hltI:¬(i:Int)<(n:Int):=yy2;exact yf
theorem find_far{cd:Int}(hc:1<=cd/\cd<=28){day:Int}(hd:day<=100000):∀(f:Nat) (fr:Int), -135140<=fr->fr<=day->dD fr=cd->day<fr+28*f->(findW cd day f fr).2=true:=by
 intro f
 induction f with
 |zero=>intro fr h0 h1 h2 h3;omega
 |succ f ih=>
  intro fr h0 h1 h2 h3;have hge:=Aaz (fr:=fr) (cd:=cd) h0 yy0 hc.1 hc.2
  have hF:fr+27<=lastF fr cd:=by
   have hi:=date_is h0 (by omega:fr<=2932896);unfold lastF;rw [h2,if_pos yy0]
   have:28<=mlen (dY fr) (dM fr):=by
    have m0:=hi.m0;have m1:=hi.m1;unfold mlen
    split
    ·split<;>omega
    ·split
     ·omega
     ·rw [if_pos ⟨m0,m1⟩];omega
   omega
  have he:lastE fr cd=0:=by
   unfold lastE;rw [if_neg yy0,if_neg yy0,if_neg yy0]
  by_cases hl:lastF fr cd<day
  ·have hy:=lastF_yes (fr:=fr) (cd:=cd) h0 yy0 hc.1 hc.2 yy0;have:=ih (lastF fr cd+1) yy0 yy0 hy yy0;rw [findW_go he ⟨hl,by omega⟩];exact this
  ·rw [Acn he yy0];simp;omega
theorem ofE_far{st cd day:Int}(hc:1<=cd/\cd<=28)(h0: -135140<=st)(h1:st<=day)(h2:day<=100000)(h3:day<st+8000):ofE st cd day=0/\(findW cd day 300 st).2=true:=by
 have hge:=Aaz (fr:=st) (cd:=cd) h0 yy0 hc.1 hc.2
 have he:lastE st cd=0:=by
  unfold lastE;rw [if_neg yy0,if_neg yy0,if_neg yy0]
 have hf:(findW cd day 300 st).2=true:=by
  by_cases hl:lastF st cd<day
  ·have hy:=lastF_yes (fr:=st) (cd:=cd) h0 yy0 hc.1 hc.2 yy0;rw [findW_go he ⟨hl,by omega⟩];exact find_far hc h2 299 (lastF st cd+1) yy0 yy0 hy yy0
  ·rw [Acn he yy0];simp;omega
 refine⟨?_,hf⟩;unfold ofE;rw [if_pos he,if_pos hf]
theorem repErr_play{t:Tm}{L:List Ev}{td:Int}(hz:t.err=0)(hL:∀x∈L,evErr t x=0/\x.day<=td)(hl:L.length<=2000)(h0:t.start<=td)(h1:td<=100000)(h2:td<t.start+8000):Dl t L td=0:=by
 obtain⟨_,_,hc,_,_,_,hst⟩:=Ff hz;obtain⟨ho,_⟩:=ofE_far (st:=t.start) (day:=td) hc yy0 h0 h1 h2
 have hall:L.any (lateQ td)=false:=by
  rcases hb:L.any (lateQ td) with _|_
  ·rfl
  ·obtain⟨x,hx,hq⟩:=List.any_eq_true.1 hb;have:=(hL x hx).2;simp [lateQ] at hq;omega
 unfold Dl;rw [if_pos hz,if_pos (Aco (λx hx=>(hL x hx).1)),if_neg yy0,if_neg yy0,if_neg (by rw [ho];simp),hall];rfl
open Go.ChangeShapes Go.WideShapes Go.RowKit Go.Deep
def Ev.wf(a:Ev):Prop:=(Lit.int .i64 a.kind).wf=true/\(Lit.int .i64 a.day).wf=true/\(Lit.int .i64 a.tranche).wf=true/\(Lit.int .i64 a.amount).wf=true/\(Lit.int .i64 a.ref).wf=true
def Tn.wf(a:Tn):Prop:=(Lit.int .i64 a.rate).wf=true/\True
theorem open_Tn{H:Type}{enc:TypeId×Value->H}{w:World}{spare:Nat->Bool}{held:Bool}(n:Nat)(cs:List Value)(d:DataW H×List MemPlace)(h:DataW.trod enc Tryz.prog w 0 spare held n 120 cs=some d):∃a:Tn,cs=a.cells/\a.wf:=by
 obtain⟨xs,m,rfl,_,hlen,hxs,hf⟩:=DataW.trod_struct Tryz.underlying120 h;have hl:cs.length=2:=hlen.trans yy3;have hx:xs.length=2:=hxs;have g0:=hf 0 _ rfl;rw [show Tryz.prog.cellsOf _=1 from by kernel_rfl,List.getElem?_eq_getElem (show 0<xs.length by omega)] at g0;have g1:=hf 1 _ rfl;rw [show Tryz.prog.cellsOf _=1 from by kernel_rfl,List.getElem?_eq_getElem (show 1<xs.length by omega)] at g1
 match cs,hl with
 | [c0,c1],_=>
  obtain⟨a0,e0,_,w0⟩:=DataW.trod_int Tryz.underlying2 g0;simp at e0;subst e0;obtain⟨a1,e1,_⟩:=DataW.trod_bool Tryz.underlying4 g1;simp at e1;subst e1;exact⟨⟨a0,a1⟩,rfl,w0,trivial⟩
def Tm.list(t:Tm)(ad:Option Addr)(cap:Nat):List Value:= [.int .i64 t.limit,.slice ad t.trs.length cap,.int .i64 t.cyc,.int .i64 t.due,.int .i64 t.minFixed,.int .i64 t.minPart,.int .i64 t.start]
def Tm.wf(t:Tm):Prop:=(Lit.int .i64 t.limit).wf=true/\(Lit.int .i64 t.start).wf=true
theorem open_Tm{H:Type}{enc:TypeId×Value->H}{w:World}{spare:Nat->Bool}{held:Bool}(n:Nat)(cs:List Value)(d:DataW H×List MemPlace)(h:DataW.trod enc Tryz.prog w 0 spare held n 44 cs=some d):
  ∃(s:Tm) (ad:Option Addr) (cap:Nat),cs=s.list ad cap/\
   Reads w 2 (.slice ad s.trs.length cap) s.trs.length (s.trs.flatMap Tn.cells)/\s.trs.length<=maxLen:=by
 obtain⟨xs,m,rfl,_,hlen,hxs,hf⟩:=DataW.trod_struct Tryz.underlying44 h;have hl:cs.length=7:=hlen.trans yy3;have hx:xs.length=7:=hxs;have g0:=hf 0 _ rfl;have g1:=hf 1 _ rfl;have g2:=hf 2 _ rfl;have g3:=hf 3 _ rfl;have g4:=hf 4 _ rfl;have g5:=hf 5 _ rfl;have g6:=hf 6 _ rfl;rw [show Tryz.prog.cellsOf _=1 from by kernel_rfl,List.getElem?_eq_getElem (show 0<xs.length by omega)] at g0;rw [show Tryz.prog.cellsOf _=1 from by kernel_rfl,List.getElem?_eq_getElem (show 1<xs.length by omega)] at g1;rw [show Tryz.prog.cellsOf _=1 from by kernel_rfl,List.getElem?_eq_getElem (show 2<xs.length by omega)] at g2;rw [show Tryz.prog.cellsOf _=1 from by kernel_rfl,List.getElem?_eq_getElem (show 3<xs.length by omega)] at g3;rw [show Tryz.prog.cellsOf _=1 from by kernel_rfl,List.getElem?_eq_getElem (show 4<xs.length by omega)] at g4;rw [show Tryz.prog.cellsOf _=1 from by kernel_rfl,List.getElem?_eq_getElem (show 5<xs.length by omega)] at g5;rw [show Tryz.prog.cellsOf _=1 from by kernel_rfl,List.getElem?_eq_getElem (show 6<xs.length by omega)] at g6
 match cs,hl with
 | [c0,c1,c2,c3,c4,c5,c6],_=>
  obtain⟨a0,e0,_,w0⟩:=DataW.trod_int Tryz.underlying2 g0;simp at e0;subst e0
  obtain⟨ad,len,cap,e4⟩:∃ad len cap,c1= .slice ad len cap:=by
   rcases open_slice Tryz.underlying42 g1 with⟨h0,_⟩|⟨a,len',cap',m,n,D,Pl,h0,_⟩
   ·simp at h0;exact⟨_,_,_,h0⟩
   ·simp at h0;exact⟨_,_,_,h0⟩
  subst e4;obtain⟨L,hLl,hr,_,hm⟩:=Ub (f:=Tn.cells) (size:=2) Tn.Aj yy1 Tryz.underlying42 yy3 (λn cs d hd=>open_Tn n cs d hd) g1;subst hLl;obtain⟨a2,e2,_,w2⟩:=DataW.trod_int Tryz.underlying3 g2;simp at e2;subst e2;obtain⟨a3,e3,_,w3⟩:=DataW.trod_int Tryz.underlying3 g3;simp at e3;subst e3;obtain⟨a4,e4,_,w4⟩:=DataW.trod_int Tryz.underlying2 g4;simp at e4;subst e4;obtain⟨a5,e5,_,w5⟩:=DataW.trod_int Tryz.underlying2 g5;simp at e5;subst e5;obtain⟨a6,e6,_,w6⟩:=DataW.trod_int Tryz.underlying3 g6;simp at e6;subst e6;exact⟨⟨a0,a2,a3,a4,a5,a6,L⟩,ad,cap,rfl,hr,hm⟩
open Go.RowKit Go.IntWalk
theorem bs_self{L:List Int}(h:L.length=48):bs L=L:=by
 apply List.ext_getElem?
 intro i;unfold bs;by_cases hi:i<48
 ·rw [List.getElem?_map,List.getElem?_range hi];simp [List.getD_eq_getElem?_getD,List.getElem?_eq_getElem (show i<L.length by omega)]
 ·rw [List.getElem?_eq_none (by simp;omega),List.getElem?_eq_none yy0]
structure PgF(n:Nat)(fl:Int)(m:Nat)(B R:List Int):Prop where
 len:R.length=48
 c4:R[4]?=some fl
 c5:R[5]?=some (m:Int)
 c47:R[47]?=some 90
 z:∀j,6+m<=j->j<47->R[j]?=some 0
 body:(R.drop 6).take m=B
 s:R.take 4=sum4 n R
 ok:∀x∈R,0<=x/\x<=255
theorem sum4_length(n:Nat)(b:List Int):(sum4 n b).length=4:=rfl
theorem sum4_ok(n:Nat)(b:List Int):∀x∈sum4 n b,0<=x/\x<=255:=by
 intro x hx;unfold sum4 at hx;simp only [List.mem_cons,List.not_mem_nil,or_false] at hx;rcases hx with rfl|rfl|rfl|rfl<;>omega
theorem pageR_facts(n:Nat)(first last:Bool)(B:List Int)(hB:∀z∈B,0<=z/\z<=255)(h2:B.length<=41):PgF n (flagI first last) B.length B (pageR n first last B):=by
 have h5:(pageL first last B).drop 4= [flagI first last,(B.length:Int)]++B++List.replicate (41-B.length) 0++ [90]:=rfl;have hR:pageR n first last B=sum4 n (pageL first last B)++(pageL first last B).drop 4:=by rw [h5];unfold pageR;simp
 have hl:(pageR n first last B).length=48:=by unfold pageR;simp [sum4_length];omega
 have hL:=pageL_length (first:=first) (last:=last) h2;have hd:(pageR n first last B).drop 4=(pageL first last B).drop 4:=by rw [hR,List.drop_left' (sum4_length _ _)]
 have hg:∀j,(pageR n first last B)[4+j]?=((pageL first last B).drop 4)[j]?:=λj=>by rw [hR,List.getElem?_append_right (by rw [sum4_length];omega),sum4_length];congr 1;omega
 refine⟨hl,(hg 0).trans rfl,(hg 1).trans rfl, ?_,λj h1 h3=> ?_, ?_, ?_, ?_⟩
 ·have h43:([flagI first last,(B.length:Int)]++B++List.replicate (41-B.length) 0).length=43:=by simp;omega
  rw [show 47=4+43 from rfl,hg,h5,List.getElem?_append_right yy0,h43];rfl
 ·obtain⟨k,rfl⟩:∃k,j=4+k:=⟨j-4,by omega⟩;rw [hg,h5,List.getElem?_append_left (by simp;omega),List.getElem?_append_right (by simp;omega),List.getElem?_replicate,if_pos (by simp;omega)]
 ·rw [show 6=4+2 from rfl,<-List.drop_drop,hd,h5];show List.take B.length (B++List.replicate (41-B.length) 0++ [90])=B;rw [List.append_assoc,List.take_left]
 ·have hs:sumL n (pageR n first last B)=sumL n (pageL first last B):=by unfold sumL;rw [bs_self hl,bs_self hL,hd]
  have h4:sum4 n (pageR n first last B)=sum4 n (pageL first last B):=by unfold sum4;rw [hs]
  rw [h4]
  conv=>lhs;rw [hR]
  exact List.take_left' (sum4_length _ _)
 ·intro x hx;rw [hR] at hx;rcases List.mem_append.1 hx with h|h
  ·exact sum4_ok _ _ x h
  ·exact pageL_ok h2 hB x (List.mem_of_mem_drop h)
def jrS9(b:Nat)(x0 x1 x2 x3:Value)(R:Array Value)(w:World):Prop:=((w.cell? ⟨b,0,none⟩=some x0/\b<w.heap.size)/\(w.cell? ⟨b,1,none⟩=some x1/\w.cell? ⟨b,2,none⟩=some x2)/\w.cell? ⟨b,3,none⟩=some x3)/\w.heap[b]?=some (.cells R 75 (0,0))
theorem jrS9.keep{b:Nat}{x0 x1 x2 x3:Value}{R:Array Value}{W W':World}(h:jrS9 b x0 x1 x2 x3 R W)(hk:Keeps (λ_=>False) W W'):jrS9 b x0 x1 x2 x3 R W':=by
 obtain⟨⟨⟨h1,hb⟩,⟨h2,h3⟩,h4⟩,h5⟩:=h;have k:∀{p:Addr} {u:Value},W.cell? p=some u->W'.cell? p=some u:=λhc=>(hk.cell (Ag hc) (by simp)).trans hc;exact⟨⟨⟨k h1,Nat.lt_of_lt_of_le hb hk.size⟩,⟨k h2,k h3⟩,k h4⟩,Ad h5 hk (by simp)⟩
def jrS1(b:Nat)(x4 x5:Value)(w:World):Prop:=w.cell? ⟨b,4,none⟩=some x4/\w.cell? ⟨b,5,none⟩=some x5
theorem b48_cell{w:World}{b:Nat}{R:List Int}(h:w.heap[b]?=some (.cells (b48 R).toArray 75 (0,0)))(hl:R.length=48){j:Nat}{z:Int}(hz:R[j]?=some z):w.cell? ⟨b,j,none⟩=some (.int .u8 z):=by
 rw [Aa h,Uu hl,List.getElem?_toArray,List.getElem?_map,hz];rfl
def jrFr(n:Nat)(R:List Int)(b:Nat)(fl:Int)(m q:Nat)(u:Nat->Value):Act:={ tmps:= #[.int .i64 ((n:Nat):Int),.agg (b48 R).toArray,u 2,(.pointer (some ⟨b,0,none⟩)),.bool false,.bool false,.slice none 0 0,.int .i64 0,.int .u8 fl,.int .i64 ((m:Nat):Int),.int .i64 4,.int .i64 ((q:Nat):Int),u 12,u 13,u 14,u 15,u 16,u 17,u 18,u 19,u 20,u 21,u 22,u 23,u 24,u 25,u 26,u 27,u 28,u 29,u 30,u 31,u 32,u 33,u 34,u 35,u 36,u 37,u 38,u 39,u 40,u 41,u 42,u 43,u 44,u 45,u 46,u 47,u 48,u 49,u 50,u 51,u 52,u 53,u 54,u 55,u 56,u 57,u 58,u 59,u 60,u 61,u 62,u 63,u 64,u 65,u 66,u 67,u 68,u 69,u 70,u 71,u 72,u 73,u 74,u 75],defers:= [] }
def jrJ(n:Nat)(R:List Int)(b:Nat)(fl:Int)(m:Nat)(w:World)(a':Act)(W:World):Prop:=∃(q:Nat) (u:Nat->Value),a'=jrFr n R b fl m q u/\6+m<=q/\q<=47/\Keeps (λ_=>False) w W/\W.heap[b]?=some (.cells (b48 R).toArray 75 (0,0))
theorem jrJ.mk{n:Nat}{R:List Int}{b:Nat}{fl:Int}{m:Nat}{w W:World}{a':Act}(q:Nat)(h:a'=jrFr n R b fl m q (λi=>a'.tmps.getD i undef))(h1:6+m<=q)(h2:q<=47)(h3:Keeps (λ_=>False) w W)(h4:W.heap[b]?=some (.cells (b48 R).toArray 75 (0,0))):jrJ n R b fl m w a' W:=⟨q,_,h,h1,h2,h3,h4⟩
theorem u8c_map(B:List Int):B.flatMap u8c=B.map λz=> .int .u8 z:=by
 induction B with
 |nil=>rfl
 |cons z B ih=>rw [List.flatMap_cons,ih];rfl
theorem body_reads{n m b:Nat}{fl:Int}{B R:List Int}{V:World}(hf:PgF n fl m B R)(hm:B.length=m)(h2:m<=41)(hV:V.heap[b]?=some (.cells (b48 R).toArray 75 (0,0))):Reads V 1 (.slice (some ⟨b,6,none⟩) m 42) m (B.flatMap u8c):=by
 rw [u8c_map];refine⟨_,_,rfl,by omega,by simp [hm],nofun,λj x hj=>⟨b,6,rfl, ?_⟩⟩;rw [List.getElem?_map] at hj;obtain⟨z,hz,rfl⟩:=Option.map_eq_some_iff.1 hj;refine b48_cell hV hf.len ?_;have hjm:j<m:=by rw [<-hm];exact(List.getElem?_eq_some_iff.1 hz).1
 rw [<-hf.body,List.getElem?_take_of_lt hjm,List.getElem?_drop] at hz;exact hz
theorem run_equalIn_four{P:Program}(w:World)(d:Nat)(t e:TypeId)(ht:P.underlying t=some (.array 4 e))(he:P.underlying e=some (.int .u8))(hsz:∀w,(sizeOf e).run P w= .ok 1 w)(s0 s1 s2 s3:Int):
  (Op.equalIn (d+2) t (.agg #[.int .u8 s0,.int .u8 s1,.int .u8 s2,.int .u8 s3]) (.agg #[.int .u8 s0,.int .u8 s1,.int .u8 s2,.int .u8 s3])).run P w= .ok true w:=by
 rw [Op.equalIn];simp only [Sem.run_bind,run_underlying ht,Result.andThen_ok,hsz,Std.Legacy.Range.forIn_eq_forIn_range',Std.Legacy.Range.size,Nat.sub_zero,Nat.add_sub_cancel,Nat.div_one];rw [show List.range' 0 4 1= [0,1,2,3] from rfl]
 have px:∀(i:Nat) (x:Value), #[Value.int .u8 s0,.int .u8 s1,.int .u8 s2,.int .u8 s3][i]?=some x->(part e #[.int .u8 s0,.int .u8 s1,.int .u8 s2,.int .u8 s3] (i*1)).run P w= .ok x w:=by
  intro i x hx;simp [part,isAgg,run_underlying he,hx]
 have pe:∀a:Int,(Op.equalIn (d+1) e (.int .u8 a) (.int .u8 a)).run P w= .ok true w:=λa=>by
  rw [run_equalIn_int w d e .u8 .u8 _ _ he];simp
 simp only [List.forIn_cons,List.forIn_nil,Sem.run_bind,px 0 (.int .u8 s0) rfl,px 1 (.int .u8 s1) rfl,px 2 (.int .u8 s2) rfl,px 3 (.int .u8 s3) rfl,pe,Result.andThen_ok,Bool.not_true,Bool.false_eq_true,if_false,Sem.run_pure]
theorem jRead_ok (n : Nat) (first last : Bool) (m : Nat) (B R : List Int) (w : World) (hn : n <= 20000) (hf : PgF n (flagI first last) m B R) (hm : B.length = m) (h1 : 1 <= m) (h2 : m <= 41) (h3 : m = 41 \/ last = true) :
    Calls Tryz.prog 148 #[.int .i64 n, .agg (b48 R).toArray] w λe w' => ∃ v, e = .returned (.tuple #[.bool first, .bool last, v, .int .i64 0]) /\ w'.ownsRow 0 5 1 v m (B.flatMap u8c) /\ Keeps (λ_ => False) w w' /\ (∀ g, v.ownBlock = some g -> w.heap.size <= g) := by
  obtain ⟨fl, hfl⟩ : ∃ z, flagI first last = z := ⟨_, rfl⟩;rw [hfl] at hf
  have hfc : (first = false /\ last = false /\ fl = 0) \/ (first = false /\ last = true /\ fl = 2) \/ (first = true /\ last = false /\ fl = 1) \/ (first = true /\ last = true /\ fl = 3) := by
    rw [<- hfl]; cases first <;> cases last <;> simp [flagI]
  have hfb : 0 <= fl /\ fl <= 3 := by rcases hfc with ⟨_, _, h⟩ | ⟨_, _, h⟩ | ⟨_, _, h⟩ | ⟨_, _, h⟩ <;> omega
  have n0 : (0 : Int) <= (n : Int) := by omega
  have n1 : (n : Int) <= 20000 := by omega
  have m1 : (1 : Int) <= (m : Int) := by omega
  have m2 : (m : Int) <= 41 := by omega
  have hb0 := heap_alloc_new w (.cells (b48 R).toArray 75);obtain ⟨W0, hW0⟩ : ∃ x, x = w.alloc (.cells (b48 R).toArray 75) := ⟨_, rfl⟩;have hk0 : Keeps (λ_ => False) w W0 := by rw [hW0]; exact Keeps.alloc _ _
  rw [<- hW0] at hb0;have hS1 : jrS1 w.heap.size (.int .u8 fl) (.int .u8 (m : Int)) W0.drew := ⟨b48_cell hb0 hf.len hf.c4, b48_cell hb0 hf.len hf.c5⟩;obtain ⟨s0, s1, s2, s3, hs, hjs⟩ : ∃ s0 s1 s2 s3, sum4 n R = [s0, s1, s2, s3] /\ ∀ W, Calls Tryz.prog 151 #[.int .i64 n, .agg (b48 R).toArray] W λe w' => e = .returned (.agg #[.int .u8 s0, .int .u8 s1, .int .u8 s2, .int .u8 s3]) /\ Keeps (λ_ => False) W w' := ⟨_, _, _, _, rfl, λW => jSum_any n R W hn hf.ok⟩;have ht4 : R.take 4 = [s0, s1, s2, s3] := hf.s.trans hs
  have r0 : R[0]? = some s0 := by have : (R.take 4)[0]? = some s0 := by rw [ht4]; rfl
                                  rwa [List.getElem?_take_of_lt (by omega)] at this
  have r1 : R[1]? = some s1 := by have : (R.take 4)[1]? = some s1 := by rw [ht4]; rfl
                                  rwa [List.getElem?_take_of_lt (by omega)] at this
  have r2 : R[2]? = some s2 := by have : (R.take 4)[2]? = some s2 := by rw [ht4]; rfl
                                  rwa [List.getElem?_take_of_lt (by omega)] at this
  have r3 : R[3]? = some s3 := by have : (R.take 4)[3]? = some s3 := by rw [ht4]; rfl
                                  rwa [List.getElem?_take_of_lt (by omega)] at this
  have h9 : ∀ b V, V.heap[b]? = some (.cells (b48 R).toArray 75 (0, 0)) -> jrS9 b (.int .u8 s0) (.int .u8 s1) (.int .u8 s2) (.int .u8 s3) (b48 R).toArray V := λb V hb => ⟨⟨⟨b48_cell hb hf.len r0, lt_of_block hb⟩, ⟨b48_cell hb hf.len r1, b48_cell hb hf.len r2⟩, b48_cell hb hf.len r3⟩, hb⟩
  have hsl : ∀ b V, (Instr.sliceAt 75 (.pointer (some ⟨b, 0, none⟩)) (some (.int .i64 6)) (some (.int .i64 (6 + (m : Int)))) none).run Tryz.prog V = .ok (.slice (some ⟨b, 6, none⟩) m 42) V := λb V => by
    rw [run_sliceAt_array_lh V 75 ⟨b, 0, none⟩ Tryz.underlying75 .i64 .i64 6 (6 + (m : Int)) (by omega) (by omega) (by show (6 + (m : Int)) <= 48; omega)];have : (6 + (m : Int)).toNat = 6 + m := by omega
    rw [this];go_simp
  have hcl : ∀ (b : Nat) (V : World), V.heap[b]? = some (.cells (b48 R).toArray 75 (0, 0)) -> Calls Tryz.prog 109 #[.slice (some ⟨b, 6, none⟩) m 42] V λe w' => ∃ v', e = .returned v' /\ w'.ownsRow 0 5 1 v' m (B.flatMap u8c) /\ Keeps (λ_ => False) V w' /\ (∀ k, v'.ownBlock = some k -> V.heap.size <= k) := λb V hV => Wj V (.slice (some ⟨b, 6, none⟩) m 42) m (B.flatMap u8c) (body_reads hf hm h2 hV) (u8c_one B) (by omega);have hq4 : ∀ V, (Op.equalIn 10000 223 (.agg #[.int .u8 s0, .int .u8 s1, .int .u8 s2, .int .u8 s3]) (.agg #[.int .u8 s0, .int .u8 s1, .int .u8 s2, .int .u8 s3])).run Tryz.prog V = .ok true V := λV => run_equalIn_four V 9998 223 _ Tryz.underlying223 Tryz.underlying5 (λw => by go_simp) s0 s1 s2 s3;obtain ⟨Hf, Hm, Hb0, Hk0, HS1, Hs, Hjs, Ht4, R0⟩ := hid9 hf hm hb0 hk0 hS1 hs hjs ht4 r0; clear r0 ht4 hjs hs hS1 hk0 hb0 hm hf; obtain ⟨R1, R2, R3, H9, Hcl, Hfc, Hfb⟩ := hid7 r1 r2 r3 h9 hcl hfc hfb; clear hfb hfc hcl h9 r3 r2 r1;go_enter Tryz.func148, Tryz.ntmps148;go_wp2_with fail;rw [<- hW0];clear hW0;obtain ⟨b, hb⟩ : ∃ b, w.heap.size = b := ⟨_, rfl⟩;rw [hb] at Hb0 HS1 ⊢;refine Db 1 (jrJ n R b fl m w) (λa' _ => 47 - Dz 11 a') rfl ?_ ?_
  · rintro a' W ⟨q, u, rfl, q1, q2, hk, hb1⟩
    unfold jrFr;by_cases hq : q < 47
    · have hqi : (q : Int) < 47 := by omega
      have hc : W.cell? ⟨b, q, none⟩ = some (.int .u8 0) := b48_cell hb1 Hf.out.len (Hf.out.z q q1 hq);obtain ⟨Hk, Hb1⟩ := hid2 hk hb1; clear hb1 hk;go_wp2_with fail;go_step3;go_wp2;exact Aw ⟨jrJ.mk (q + 1) rfl (by omega) (by omega) Hk.out Hb1.out, by simp [Dz]; omega⟩
    · obtain rfl : q = 47 := by omega
      have h9 := H9.out b W.drew (Ad hb1 (Keeps.drew (S := λ_ => False) W) (by simp));obtain ⟨Hk, Hb1⟩ := hid2 hk hb1; clear hb1 hk;have H9' := Lib.hid h9;clear h9;go_wp2_with fail;refine Ak (jrS9 b (.int .u8 s0) (.int .u8 s1) (.int .u8 s2) (.int .u8 s3) (b48 R).toArray) (.take 0 (.take 1 (.take 3 (.fork 2 (.move 4 (.take 5 (.take 6 .done))) 4 (.take 5 (.move 2 (.take 6 .done))))))) (by kernel_rfl) (by kernel_rfl) ?_ ?_
      · exact H9'.out
      intro w1 hs1 hk1;have Hs1 := Lib.hid hs1;have Hk1 := Lib.hid hk1;clear hs1 hk1
      repeat (first
        | (refine Bq rfl (by rfl) ?_; try simp only [Act.put, List.setIfInBounds_toArray, List.set_cons_zero, List.set_cons_succ])
        | (refine Bg rfl (by rfl) ?_; try simp only [Act.put, List.setIfInBounds_toArray, List.set_cons_zero, List.set_cons_succ])
        | (refine Bj (v := ?_) rfl (by rfl) ?_ ?_; rotate_left; (· intro w' hSw; unfold jrS9 at hSw; go_simp; (try with_reducible rfl)); rotate_right; try simp only [Act.put, List.setIfInBounds_toArray, List.set_cons_zero, List.set_cons_succ]))
      refine Dj rfl (by rfl) b rfl 75 (b48 R).toArray (0, 0) _ (λw' hS => hS.2) Tryz.underlying75 rfl Be ?_
      try simp only [Act.put, List.setIfInBounds_toArray, List.set_cons_zero, List.set_cons_succ]
      repeat (first
        | (refine Bq rfl (by rfl) ?_; try simp only [Act.put, List.setIfInBounds_toArray, List.set_cons_zero, List.set_cons_succ])
        | (refine Bg rfl (by rfl) ?_; try simp only [Act.put, List.setIfInBounds_toArray, List.set_cons_zero, List.set_cons_succ])
        | (refine Bj (v := ?_) rfl (by rfl) ?_ ?_; rotate_left; (· intro w' hSw; unfold jrS9 at hSw; go_simp; (try with_reducible rfl)); rotate_right; try simp only [Act.put, List.setIfInBounds_toArray, List.set_cons_zero, List.set_cons_succ]))
      refine Dn ?_ ?_ Hs1.out
      ·
        refine Ah rfl (λK hK => ?_);go_simp
        go_at_call 151
        ((with_reducible refine (Hjs.out _).mono ?_); rintro e w2 ⟨rfl, hk2⟩)
        dsimp only;have hs2 := Hs1.out.keep hk2;refine hK.out _ _ (by exact hs2) ?_;clear hK K
        try simp only [Act.put, List.setIfInBounds_toArray, List.set_cons_zero, List.set_cons_succ]
        have hat : ∀ V, (Instr.arrayAt 223 (.slice (some ⟨b, 0, none⟩) 4 48)).run Tryz.prog V = .ok (.pointer (some ⟨b, 0, none⟩)) V := λV => run_arrayAt V 223 _ 4 _ 4 48 Tryz.underlying223 (by omega);refine Ah rfl (λK hK => ?_);go_simp;refine hK.out _ _ (by exact hs2) ?_;clear hK K
        try simp only [Act.put, List.setIfInBounds_toArray, List.set_cons_zero, List.set_cons_succ]
        repeat (first
          | (refine Bq rfl (by rfl) ?_; try simp only [Act.put, List.setIfInBounds_toArray, List.set_cons_zero, List.set_cons_succ])
          | (refine Bg rfl (by rfl) ?_; try simp only [Act.put, List.setIfInBounds_toArray, List.set_cons_zero, List.set_cons_succ])
          | (refine Bj (v := ?_) rfl (by rfl) ?_ ?_; rotate_left; (· intro w' hSw; unfold jrS9 at hSw; go_simp; (try with_reducible rfl)); rotate_right; try simp only [Act.put, List.setIfInBounds_toArray, List.set_cons_zero, List.set_cons_succ]))
        refine Ap ?_;have hk02 : Keeps (λ_ => False) w w2 := Keeps.nt Hk.out (Keeps.nt Hk1.out hk2);have hb2 := hs2.2;clear hs2 hk2;obtain ⟨Hk02, Hb2⟩ := hid2 hk02 hb2; clear hb2 hk02;rcases Hfc.out with ⟨rfl, rfl, rfl⟩ | ⟨rfl, rfl, rfl⟩ | ⟨rfl, rfl, rfl⟩ | ⟨rfl, rfl, rfl⟩
        all_goals
          go_wp2_with (go_at_call 109; (with_reducible refine (Hcl.out _ _ Hb2.out).mono ?_); rintro e w3 ⟨v3, rfl, hrow3, hk3, hv3⟩; have Hrow3 := Lib.hid hrow3; have Hk3 := Lib.hid hk3; have Hv3 := Lib.hid hv3; clear hrow3 hk3 hv3)
          refine Bl ?_;exact bodyPost_ret (v := .tuple #[.bool _, .bool _, v3, .int .i64 0]) (by simp [results, Tryz.results148, go_sem]; (first | decide | exact ⟨by decide, by decide⟩ | skip)) rfl ⟨v3, rfl, Hrow3.out, Keeps.nt Hk02.out Hk3.out, λg hg => Nat.le_trans Hk02.out.size (Hv3.out g hg)⟩
      · have hat : ∀ V, (Instr.arrayAt 223 (.slice (some ⟨b, 0, none⟩) 4 48)).run Tryz.prog V = .ok (.pointer (some ⟨b, 0, none⟩)) V := λV => run_arrayAt V 223 _ 4 _ 4 48 Tryz.underlying223 (by omega)
        refine Ah rfl (λK hK => ?_);go_simp;refine hK.out _ _ (by exact Hs1.out) ?_;clear hK K
        try simp only [Act.put, List.setIfInBounds_toArray, List.set_cons_zero, List.set_cons_succ]
        repeat (first
          | (refine Bq rfl (by rfl) ?_; try simp only [Act.put, List.setIfInBounds_toArray, List.set_cons_zero, List.set_cons_succ])
          | (refine Bg rfl (by rfl) ?_; try simp only [Act.put, List.setIfInBounds_toArray, List.set_cons_zero, List.set_cons_succ])
          | (refine Bj (v := ?_) rfl (by rfl) ?_ ?_; rotate_left; (· intro w' hSw; unfold jrS9 at hSw; go_simp; (try with_reducible rfl)); rotate_right; try simp only [Act.put, List.setIfInBounds_toArray, List.set_cons_zero, List.set_cons_succ]))
        refine Ah rfl (λK hK => ?_);go_simp
        go_at_call 151
        ((with_reducible refine (Hjs.out _).mono ?_); rintro e w2 ⟨rfl, hk2⟩)
        dsimp only;have hs2 := Hs1.out.keep hk2;refine hK.out _ _ (by exact hs2) ?_;clear hK K
        try simp only [Act.put, List.setIfInBounds_toArray, List.set_cons_zero, List.set_cons_succ]
        repeat (first
          | (refine Bq rfl (by rfl) ?_; try simp only [Act.put, List.setIfInBounds_toArray, List.set_cons_zero, List.set_cons_succ])
          | (refine Bg rfl (by rfl) ?_; try simp only [Act.put, List.setIfInBounds_toArray, List.set_cons_zero, List.set_cons_succ])
          | (refine Bj (v := ?_) rfl (by rfl) ?_ ?_; rotate_left; (· intro w' hSw; unfold jrS9 at hSw; go_simp; (try with_reducible rfl)); rotate_right; try simp only [Act.put, List.setIfInBounds_toArray, List.set_cons_zero, List.set_cons_succ]))
        refine Ap ?_;have hk02 : Keeps (λ_ => False) w w2 := Keeps.nt Hk.out (Keeps.nt Hk1.out hk2);have hb2 := hs2.2;clear hs2 hk2;obtain ⟨Hk02, Hb2⟩ := hid2 hk02 hb2; clear hb2 hk02;rcases Hfc.out with ⟨rfl, rfl, rfl⟩ | ⟨rfl, rfl, rfl⟩ | ⟨rfl, rfl, rfl⟩ | ⟨rfl, rfl, rfl⟩
        all_goals
          go_wp2_with (go_at_call 109; (with_reducible refine (Hcl.out _ _ Hb2.out).mono ?_); rintro e w3 ⟨v3, rfl, hrow3, hk3, hv3⟩; have Hrow3 := Lib.hid hrow3; have Hk3 := Lib.hid hk3; have Hv3 := Lib.hid hv3; clear hrow3 hk3 hv3)
          refine Bl ?_;exact bodyPost_ret (v := .tuple #[.bool _, .bool _, v3, .int .i64 0]) (by simp [results, Tryz.results148, go_sem]; (first | decide | exact ⟨by decide, by decide⟩ | skip)) rfl ⟨v3, rfl, Hrow3.out, Keeps.nt Hk02.out Hk3.out, λg hg => Nat.le_trans Hk02.out.size (Hv3.out g hg)⟩
  · intro hfirst
    have Hfirst := Lib.hid hfirst; clear hfirst;go_wp2_with fail;refine Ak (jrS1 b (.int .u8 fl) (.int .u8 (m : Int))) (.take 0 (.take 1 (.take 2 (.take 3 (.take 4 (.take 5 (.take 6 .done))))))) (by kernel_rfl) (by kernel_rfl) ?_ ?_
    · exact HS1.out
    intro w1 hs1 hk1;have Hs1 := Lib.hid hs1;have Hk1 := Lib.hid hk1;clear hs1 hk1
    repeat (first
      | (refine Bq rfl (by rfl) ?_; try simp only [Act.put, List.setIfInBounds_toArray, List.set_cons_zero, List.set_cons_succ])
      | (refine Bg rfl (by rfl) ?_; try simp only [Act.put, List.setIfInBounds_toArray, List.set_cons_zero, List.set_cons_succ])
      | (refine Bj (v := ?_) rfl (by rfl) ?_ ?_; rotate_left; (· intro w' hSw; unfold jrS1 at hSw; go_simp; (try with_reducible rfl)); rotate_right; try simp only [Act.put, List.setIfInBounds_toArray, List.set_cons_zero, List.set_cons_succ]))
    have hk01 : Keeps (λ_ => False) w w1 := Keeps.nt Hk0.out Hk1.out;have hb1 : w1.heap[b]? = some (.cells (b48 R).toArray 75 (0, 0)) := Ad Hb0.out Hk1.out (by simp);have c47 : w1.cell? ⟨b, 47, none⟩ = some (.int .u8 90) := b48_cell hb1 Hf.out.len Hf.out.c47;obtain ⟨hfl0, hfl3⟩ := Hfb.out;obtain ⟨Hk01, Hb1⟩ := hid2 hk01 hb1; clear hb1 hk01;refine Ap ?_;have e6 : (6 + (m : Int)) = ((6 + m : Nat) : Int) := by omega
    have E6 := Lib.hid e6; clear e6;have h34 : m = 41 \/ (last = true /\ 2 <= fl) := by rcases h3 with h | h; exact .inl h; exact .inr ⟨h, by rcases Hfc.out with ⟨_, g, e⟩ | ⟨_, g, e⟩ | ⟨_, g, e⟩ | ⟨_, g, e⟩ <;> first | omega | (rw [h] at g; cases g)⟩
    rcases h34 with rfl | ⟨_, hfl2⟩
    all_goals
      go_wp2_with fail
    all_goals
      go_step3
      first | (rename_i hK; refine hK _ _ ?_) | (rename_i hK _; refine hK _ _ ?_) | (rename_i hK _ _; refine hK _ _ ?_)
      refine Hfirst.out _ _ ?_
      try rw [He6.out]
      first | exact jrJ.mk 47 rfl (by omega) (by omega) Hk01.out Hb1.out | exact jrJ.mk (6 + m) rfl (by omega) (by omega) Hk01.out Hb1.out
def recLeaf(k:Nat)(B:List Int)(i:Nat):List Int:=pageR (k+i) (decide (i=0)) (decide (i+1=chunks B.length)) ((B.drop (41*i)).take 41)
theorem rec_step{w w0 w3 w5:World}{vo v5:Value}(h1:Keeps (λ_=>False) w w0)(h2:Keeps (λ_=>False) w0 w3)(h3:Keeps (λk=>vo.ownBlock=some k) w3 w5)(hn:∀g,vo.ownBlock=some g->w.heap.size<=g)(hf:v5.ownBlock=vo.ownBlock\/∃g,v5.ownBlock=some g/\w3.heap.size<=g):
  Keeps (λ_=>False) w w5/\∀g,v5.ownBlock=some g->w.heap.size<=g:=by
 have h12:=h1.nt h2;refine⟨h12.trans (h3.mono λk _ e=> .inr (hn k e)),λg hg=> ?_⟩;rcases hf with e|⟨g',e,h⟩
 ·exact hn g (e.symm.trans hg)
 ·rw [e] at hg;have e':g'=g:=Option.some.inj hg;have:=h12.size;omega
theorem jRecord_ok(P k m:Nat)(B:List Int)(w:World)(hB:∀z∈B,0<=z/\z<=255)(hm:B.length=m)(h1:1<=m)(h2:m<=1000000)(hc:k+chunks m<=20000)
  (hl:∀i W,i<chunks m->Keeps (λ_=>False) w W->Calls Tryz.prog 38 #[(.pointer (some ⟨P,0,none⟩)),.int .i64 ((k+i:Nat):Int)] W (Md W (recLeaf k B i) true)):
  Calls Tryz.prog 103 #[(.pointer (some ⟨P,0,none⟩)),.int .i64 k] w λe w'=>∃v,e= .returned (.tuple #[v,.int .i64 ((k+chunks m:Nat):Int),.bool true])/\w'.ownsRow 0 5 1 v m (B.flatMap u8c)/\Keeps (λ_=>False) w w'/\(∀g,v.ownBlock=some g->w.heap.size<=g):=by
 obtain⟨i0,hi,hi0,hi1,hi2⟩:=info_parts Kh;obtain⟨C,hC⟩:∃C,chunks m=C:=⟨_,rfl⟩;have hCm:m<=41*C/\41*C<=m+40:=by rw [<-hC];unfold chunks;omega
 rw [hC] at hc hl⊢;obtain⟨Hl,HB,Hm,Hi,Hi0,Hi1,Hi2,HC⟩:=hid8 hl hB hm hi hi0 hi1 hi2 hC;clear hC hi2 hi1 hi0 hi hm hB hl;go_enter Tryz.func103,Tryz.ntmps103;go_wp2_with fail
 go_loopw [1,7] (λa b wr=>∃(i:Nat) (v:Value),i<C/\a= .int .i64 ((k+i:Nat):Int)/\b=v/\wr.ownsRow 0 5 1 v (41*i) ((B.take (41*i)).flatMap u8c)/\Keeps (λ_=>False) w wr/\(∀g,v.ownBlock=some g->w.heap.size<=g)) (λa _ _=>k+C-(intOf a).toNat)
 case atStart=>exact⟨0,_,by omega,rfl,rfl,World.ownsRow_nil _ _ _ _,Keeps.refl _ _,by simp [Value.ownBlock]⟩
 case round=>
  obtain⟨i,v,hiC,rfl,rfl,hown,hk,hnew⟩:=hrel;obtain⟨w0,hw0⟩:∃x,x=wr:=⟨_,rfl⟩;subst hw0;obtain⟨ad,cap,rfl,_,_⟩:=Af hown;obtain⟨q,hq⟩:∃q,41*i=q:=⟨_,rfl⟩;obtain⟨Bi,hBi⟩:∃Bi,(B.drop q).take 41=Bi:=⟨_,rfl⟩;obtain⟨mi,hmi⟩:∃mi,Bi.length=mi:=⟨_,rfl⟩;have hmi':mi=min 41 (m-q):=by rw [<-hmi,<-hBi,List.length_take,List.length_drop,Hm.out]
  have hBok:∀z∈Bi,0<=z/\z<=255:=λz hz=>HB.out z (by rw [<-hBi] at hz;exact List.mem_of_mem_drop (List.mem_of_mem_take hz))
  have hjoin:(B.take q).flatMap u8c++Bi.flatMap u8c=(B.take (q+mi)).flatMap u8c:=by
   rw [<-List.flatMap_append]
   congr 1
   rw [List.take_add,<-hBi]
   congr 1
   rw [List.take_eq_take_iff,List.length_drop,Hm.out,hmi'];omega
  have m1:1<=mi:=yy2;have m2:mi<=41:=yy2;have hn:=hk.size;rw [hq] at hown hnew⊢;obtain⟨R,hR⟩:∃R,recLeaf k B i=R:=⟨_,rfl⟩;have hpl:=λW hW=>Hl.out i W hiC (hk.nt hW);rw [hR] at hpl;obtain⟨n,hkn⟩:∃n,k+i=n:=⟨_,rfl⟩;obtain⟨fi,hfi⟩:∃b,decide (i=0)=b:=⟨_,rfl⟩;obtain⟨la,hla⟩:∃b,decide (i+1=C)=b:=⟨_,rfl⟩;have hpg:=pageR_facts n fi la Bi hBok yy0;have hRe:pageR n fi la Bi=R:=by rw [<-hR];unfold recLeaf;rw [Hm.out,HC.out,hq,hBi,hfi,hla,hkn]
  rw [hRe,hmi] at hpg
  have h3:mi=41\/la=true:=by
   by_cases hlast:i+1=C
   ·exact .inr (by rw [<-hla];simp [hlast])
   ·exact .inl yy0
  have hrd:=λW=>jRead_ok n fi la mi Bi R W yy0 hpg hmi m1 m2 h3;rw [hkn] at hpl⊢;have nb:n<20000:=yy2;clear hpg hRe h3 hBok;have hqm:q+mi<=m:=yy2;have hlst:i+1=C->q+mi=m:=yy2;have hmid:¬i+1=C->mi=41:=yy2;obtain⟨Hown,Hk,Hnew,Hq,HBi,Hmi,Hmi',Hjoin,HR⟩:=hid9 hown hk hnew hq hBi hmi hmi' hjoin hR;clear hR hjoin hmi' hmi hBi hq hnew hk hown;obtain⟨Hpl,Hrd,Hkn,Hlst,Hmid⟩:=hid5 hpl hrd hkn hlst hmid;clear hmid hlst hkn hrd hpl;by_cases i00:i=0
  ·have en:n=k:=by have:=Hkn.out;omega
   subst en;have hfi':fi=true:=by rw [<-hfi];simp [i00]
   subst hfi';clear hfi;have I00:=Lib.hid i00;clear i00;by_cases hlast:i+1=C
   ·have hla':la=true:=by rw [<-hla];simp [hlast]
    subst hla';clear hla;have Hlast:=Lib.hid hlast;clear hlast
    go_wp2_with (first|(go_at_call 38;(with_reducible refine(Hpl.out _ (Keeps.refl _ _)).mono ?_);rintro e w1 ⟨rfl,hk1⟩;have Hk1:=Lib.hid hk1;clear hk1)|(refine wpList_store_row rfl 75 (.tmp 9) (.tmp 22) rfl w1.heap.size (b48 R).toArray rfl rfl 75 (b48 (List.replicate 48 0)).toArray (heap_alloc_new w1 _) Be rfl (Dx _) ?_)|(refine wpList_load_row rfl 75 (.tmp 9) rfl w1.heap.size rfl 75 (b48 R).toArray _ _ (setRow_heap _ _ _ _ _ _ (heap_alloc_new w1 _)) Tryz.underlying75 rfl Be ?_)|(go_at_call 148;(with_reducible refine(Hrd.out _).mono ?_);rintro e w3 ⟨v3,rfl,hrow3,hk3,hn3⟩;obtain⟨a3,c3,rfl,_,_⟩:=Af hrow3;have hkw3:=((Keeps.nt Hk1.out (Keeps.alloc _ _)).trans ((Keeps.setRow _ _ _).mono λk _ e=> .inr y7)).nt hk3;have hown3:=hkw3.row Hown.out (by simp);have Hrow3:=Lib.hid hrow3;have Hkw3:=Lib.hid hkw3;have Hn3:=Lib.hid hn3;have Hown3:=Lib.hid hown3;clear hrow3 hk3 hn3 hkw3 hown3)|(at_builtin;refine Au rfl (.tmp 43) (.tmp 44) 24 rfl 0 5 i0 _ 1 1 Tryz.underlying24 Hi.out Hi0.out Hi1.out Hi2.out rfl yy1 (.slice ad q cap) q _ rfl Hown3.out _ mi _ rfl (Reads.Ay Hrow3.out) (u8c_one _) yy4 yy0 yy0 ?_;intro v5 w5 hown5 hk5 hf5))
    have hst:=y8;rw [Hjoin.out] at hown5;have hqe:=Hlst.out Hlast.out;rw [hqe,List.take_of_length_le (by rw [Hm.out];exact Nat.le_refl _)] at hown5;have hend:(n:Int)+1=((n+C:Nat):Int):=by have:=Hkn.out;have:=Hlast.out;omega
    exact yg
   ·have hla':la=false:=by rw [<-hla];simp [hlast]
    subst hla';clear hla;have Hlast:=Lib.hid hlast;clear hlast
    go_wp2_with (first|(go_at_call 38;(with_reducible refine(Hpl.out _ (Keeps.refl _ _)).mono ?_);rintro e w1 ⟨rfl,hk1⟩;have Hk1:=Lib.hid hk1;clear hk1)|(refine wpList_store_row rfl 75 (.tmp 9) (.tmp 22) rfl w1.heap.size (b48 R).toArray rfl rfl 75 (b48 (List.replicate 48 0)).toArray (heap_alloc_new w1 _) Be rfl (Dx _) ?_)|(refine wpList_load_row rfl 75 (.tmp 9) rfl w1.heap.size rfl 75 (b48 R).toArray _ _ (setRow_heap _ _ _ _ _ _ (heap_alloc_new w1 _)) Tryz.underlying75 rfl Be ?_)|(go_at_call 148;(with_reducible refine(Hrd.out _).mono ?_);rintro e w3 ⟨v3,rfl,hrow3,hk3,hn3⟩;obtain⟨a3,c3,rfl,_,_⟩:=Af hrow3;have hkw3:=((Keeps.nt Hk1.out (Keeps.alloc _ _)).trans ((Keeps.setRow _ _ _).mono λk _ e=> .inr y7)).nt hk3;have hown3:=hkw3.row Hown.out (by simp);have Hrow3:=Lib.hid hrow3;have Hkw3:=Lib.hid hkw3;have Hn3:=Lib.hid hn3;have Hown3:=Lib.hid hown3;clear hrow3 hk3 hn3 hkw3 hown3)|(at_builtin;refine Au rfl (.tmp 43) (.tmp 44) 24 rfl 0 5 i0 _ 1 1 Tryz.underlying24 Hi.out Hi0.out Hi1.out Hi2.out rfl yy1 (.slice ad q cap) q _ rfl Hown3.out _ mi _ rfl (Reads.Ay Hrow3.out) (u8c_one _) yy4 yy0 yy0 ?_;intro v5 w5 hown5 hk5 hf5))
    have hst:=y8;rw [Hjoin.out] at hown5;have hqe:q+mi=41*(i+1):=by have:=Hmid.out Hlast.out;have:=Hq.out;omega
    rw [hqe] at hown5;refine⟨⟨i+1,v5,by have:=Hlast.out;omega,by rw [show n+(i+1)=n+1 by have:=Hkn.out;omega];go_num,rfl,hown5,hst.1,hst.2⟩,by have:=Hkn.out;simp [intOf];omega⟩
  ·have hne:¬(n:Int)=(k:Int):=by have:=Hkn.out;omega
   have hfi':fi=false:=by rw [<-hfi];simp [i00]
   subst hfi';clear hfi;have I00:=Lib.hid i00;clear i00;by_cases hlast:i+1=C
   ·have hla':la=true:=by rw [<-hla];simp [hlast]
    subst hla';clear hla;have Hlast:=Lib.hid hlast;clear hlast
    go_wp2_with (first|(go_at_call 38;(with_reducible refine(Hpl.out _ (Keeps.refl _ _)).mono ?_);rintro e w1 ⟨rfl,hk1⟩;have Hk1:=Lib.hid hk1;clear hk1)|(refine wpList_store_row rfl 75 (.tmp 9) (.tmp 22) rfl w1.heap.size (b48 R).toArray rfl rfl 75 (b48 (List.replicate 48 0)).toArray (heap_alloc_new w1 _) Be rfl (Dx _) ?_)|(refine wpList_load_row rfl 75 (.tmp 9) rfl w1.heap.size rfl 75 (b48 R).toArray _ _ (setRow_heap _ _ _ _ _ _ (heap_alloc_new w1 _)) Tryz.underlying75 rfl Be ?_)|(go_at_call 148;(with_reducible refine(Hrd.out _).mono ?_);rintro e w3 ⟨v3,rfl,hrow3,hk3,hn3⟩;obtain⟨a3,c3,rfl,_,_⟩:=Af hrow3;have hkw3:=((Keeps.nt Hk1.out (Keeps.alloc _ _)).trans ((Keeps.setRow _ _ _).mono λk _ e=> .inr y7)).nt hk3;have hown3:=hkw3.row Hown.out (by simp);have Hrow3:=Lib.hid hrow3;have Hkw3:=Lib.hid hkw3;have Hn3:=Lib.hid hn3;have Hown3:=Lib.hid hown3;clear hrow3 hk3 hn3 hkw3 hown3)|(at_builtin;refine Au rfl (.tmp 43) (.tmp 44) 24 rfl 0 5 i0 _ 1 1 Tryz.underlying24 Hi.out Hi0.out Hi1.out Hi2.out rfl yy1 (.slice ad q cap) q _ rfl Hown3.out _ mi _ rfl (Reads.Ay Hrow3.out) (u8c_one _) yy4 yy0 yy0 ?_;intro v5 w5 hown5 hk5 hf5))
    have hst:=y8;rw [Hjoin.out] at hown5;have hqe:=Hlst.out Hlast.out;rw [hqe,List.take_of_length_le (by rw [Hm.out];exact Nat.le_refl _)] at hown5;have hend:(n:Int)+1=((k+C:Nat):Int):=by have:=Hkn.out;have:=Hlast.out;omega
    exact yg
   ·have hla':la=false:=by rw [<-hla];simp [hlast]
    subst hla';clear hla;have Hlast:=Lib.hid hlast;clear hlast
    go_wp2_with (first|(go_at_call 38;(with_reducible refine(Hpl.out _ (Keeps.refl _ _)).mono ?_);rintro e w1 ⟨rfl,hk1⟩;have Hk1:=Lib.hid hk1;clear hk1)|(refine wpList_store_row rfl 75 (.tmp 9) (.tmp 22) rfl w1.heap.size (b48 R).toArray rfl rfl 75 (b48 (List.replicate 48 0)).toArray (heap_alloc_new w1 _) Be rfl (Dx _) ?_)|(refine wpList_load_row rfl 75 (.tmp 9) rfl w1.heap.size rfl 75 (b48 R).toArray _ _ (setRow_heap _ _ _ _ _ _ (heap_alloc_new w1 _)) Tryz.underlying75 rfl Be ?_)|(go_at_call 148;(with_reducible refine(Hrd.out _).mono ?_);rintro e w3 ⟨v3,rfl,hrow3,hk3,hn3⟩;obtain⟨a3,c3,rfl,_,_⟩:=Af hrow3;have hkw3:=((Keeps.nt Hk1.out (Keeps.alloc _ _)).trans ((Keeps.setRow _ _ _).mono λk _ e=> .inr y7)).nt hk3;have hown3:=hkw3.row Hown.out (by simp);have Hrow3:=Lib.hid hrow3;have Hkw3:=Lib.hid hkw3;have Hn3:=Lib.hid hn3;have Hown3:=Lib.hid hown3;clear hrow3 hk3 hn3 hkw3 hown3)|(at_builtin;refine Au rfl (.tmp 43) (.tmp 44) 24 rfl 0 5 i0 _ 1 1 Tryz.underlying24 Hi.out Hi0.out Hi1.out Hi2.out rfl yy1 (.slice ad q cap) q _ rfl Hown3.out _ mi _ rfl (Reads.Ay Hrow3.out) (u8c_one _) yy4 yy0 yy0 ?_;intro v5 w5 hown5 hk5 hf5))
    have hst:=y8;rw [Hjoin.out] at hown5;have hqe:q+mi=41*(i+1):=by have:=Hmid.out Hlast.out;have:=Hq.out;omega
    rw [hqe] at hown5;refine⟨⟨i+1,v5,by have:=Hlast.out;omega,by rw [show k+(i+1)=n+1 by have:=Hkn.out;omega];go_num,rfl,hown5,hst.1,hst.2⟩,by have:=Hkn.out;simp [intOf];omega⟩
structure OneRec(p:Pd)(B:List Int):Prop where
 lv:∀i,i<chunks B.length->p.l[i]?=some ⟨2,recLeaf 0 B i⟩
 blank:∀i x,chunks B.length<=i->p.l[i]?=some x->x.is=0
theorem OneRec.dry{p:Pd}{B:List Int}(h:OneRec p B):p.l.map dryL=p.l:=by
 apply List.ext_getElem?
 intro i;rw [List.getElem?_map];rcases hx:p.l[i]? with _|x
 ·rfl
 ·simp only [Option.map_some,Option.some.injEq];unfold dryL;rw [if_neg];by_cases hi:i<chunks B.length
  ·rw [h.lv i hi] at hx
   cases hx
   exact(by decide:¬(2:Int)=1)
  ·have:=h.blank i x yy0 hx;omega
def usedM(J:Nat)(w:World):Nat:=match w.cell? ⟨J,3,none⟩ with|some (.int _ z)=>(1-z).toNat|_=>0
structure JoSt(w3 wr:World)(J P:Nat)(fl:Int)(B:List Int)(vl:Value)(us:Nat):Prop where
 kp:Keeps (λk=>k=J) w3 wr
 jr:JrnAt wr J P fl vl us
 st:(us=0/\vl= .slice none 0 0)\/(us=chunks B.length/\∃vb,wr.ownsRow 0 24 1 vl 1 [vb]/\wr.ownsRow 0 5 1 vb B.length (B.flatMap u8c)/\(∀g,vl.ownBlock=some g->w3.heap.size<=g)/\∀g,vb.ownBlock=some g->w3.heap.size<=g)
theorem JoSt.meas{w3 wr:World}{J P:Nat}{fl:Int}{B:List Int}{vl:Value}{us:Nat}(h:JoSt w3 wr J P fl B vl us):usedM J wr=1-us:=by
 unfold usedM;rw [Aa h.jr.blk 3];simp
theorem JoSt.put{w3 w4 w5 w6:World}{J P:Nat}{fl:Int}{B:List Int}{vb v6:Value}(h:JoSt w3 w4 J P fl B (.slice none 0 0) 0)(h5:Keeps (λ_=>False) w4 w5)(h6:Keeps (λ_=>False) w5 w6)(hr:w5.ownsRow 0 5 1 vb B.length (B.flatMap u8c))(hn:∀g,vb.ownBlock=some g->w4.heap.size<=g)(ho:w6.ownsRow 0 24 1 v6 1 [vb])
  (hf:∀g,v6.ownBlock=some g->w5.heap.size<=g):JoSt w3 ((w6.setCell ⟨J,2,none⟩ v6).setCell ⟨J,3,none⟩ (.int .i64 (chunks B.length:Nat))) J P fl B v6 (chunks B.length):=by
 have hJ6:=Ad (Ad h.jr.blk h5 (by simp)) h6 (by simp);have hk:Keeps (λk=>k=J) w6 ((w6.setCell ⟨J,2,none⟩ v6).setCell ⟨J,3,none⟩ (.int .i64 (chunks B.length:Nat))):=(Keeps.setCell (S:=λk=>k=J) _ _ _ rfl).trans (Keeps.setCell _ _ _ (.inl rfl));have hs:=h.kp.size;have hs5:=h5.size;refine⟨h.kp.trans (((h5.nt h6).mono (by simp)).trans (hk.mono λi _ e=> .inl (.inl e))),⟨(heap_setCell_same _ _ 3 _ _ _ (heap_setCell_same _ _ 2 _ _ v6 hJ6)).trans rfl⟩,.inr ⟨rfl,vb,hk.row ho (λk hk e=>Ai ho hJ6 yy1 (e▸hk)),hk.row (h6.row hr (by simp)) (λk hk e=>Ai (h6.row hr (by simp)) hJ6 yy1 (e▸hk)),λg hg=>by have:=hf g hg;omega,λg hg=>by have:=hn g hg;omega⟩⟩
def JOne(w:World)(P:Nat)(v:Value)(p:Pd)(B:List Int)(e:Ending)(w':World):Prop:=
 ∃J vl vb,e= .returned (.tuple #[(.pointer (some ⟨J,0,none⟩)),.int .i64 0])/\w.heap.size<=J/\JrnAt w' J P p.fl vl (chunks B.length)/\w'.ownsRow 0 24 1 vl 1 [vb]/\w'.ownsRow 0 5 1 vb B.length (B.flatMap u8c)/\(∀g,vl.ownBlock=some g->w.heap.size<=g)/\(∀g,vb.ownBlock=some g->w.heap.size<=g)/\PadAt w' P v (Dc p)/\Keeps (PFoot P v) w w'
theorem jOpen_one(P:Nat)(v:Value)(p:Pd)(B:List Int)(w:World)(h:PadAt w P v p)(hf:p.fl+1<=1000000)(hd:p.dn=false)(hs:¬p.sn=1)(hb:OneRec p B)(hB:∀z∈B,0<=z/\z<=255)(hB1:1<=B.length)(hB2:B.length<=1000000)(hroom:chunks B.length<=p.l.length):
  Calls Tryz.prog 57 #[(.pointer (some ⟨P,0,none⟩))] w (JOne w P v p B):=by
 obtain⟨i0,hi,hi0,hi1,hi2⟩:=info_parts Ab7;have h1:=Rj P v p w h;rw [hd] at h1;have h2:=Po P v p w h;obtain⟨w1,hw1⟩:∃W,W=w.alloc (.cells #[(.pointer (some ⟨P,0,none⟩)),.int .i64 p.fl,.slice none 0 0,.int .i64 0] 168):=⟨_,rfl⟩;have hk1:Keeps (λ_=>False) w w1:=by rw [hw1];exact Keeps.alloc _ _
 have hJ1:w1.heap[w.heap.size]?=some (.cells #[(.pointer (some ⟨P,0,none⟩)),.int .i64 p.fl,.slice none 0 0,.int .i64 0] 168 (0,0)):=by rw [hw1];exact heap_alloc_new w _
 have hp1:=h.keeps hk1 (by simp);have hdry:=Ua P v p w1 hp1 hf hd hs;rw [hb.dry,show({ Dc p with l:=p.l }:Pd)=Dc p by rw [<-Qj p]] at hdry;have hlt:=h.row.lt;obtain⟨C,hC⟩:∃C,chunks B.length=C:=⟨_,rfl⟩;obtain⟨q,hq⟩:∃q,Dc p=q:=⟨_,rfl⟩;have hql:q.l=p.l:=by rw [<-hq,Qj]
 have hC1:1<=C:=by rw [<-hC];unfold chunks;omega
 have hm2:=h.n;rw [hC] at hroom
 have hrecs:∀(W:World) (i:Nat),PadAt W P v q->i<C->Calls Tryz.prog 38 #[(.pointer (some ⟨P,0,none⟩)),.int .i64 ((0+i:Nat):Int)] W (Md W (recLeaf 0 B i) true):=λW i hW hi=>by
  have:=Tz P v q (0+i) ⟨2,recLeaf 0 B i⟩ W hW (by rw [hql,Nat.zero_add];exact hb.lv i (by rw [hC];exact hi))
  simpa using this
 have hlb:∀(W:World) (k:Nat),PadAt W P v q->C<=k->Calls Tryz.prog 38 #[(.pointer (some ⟨P,0,none⟩)),.int .i64 k] W (Md W [] false):=λW k hW hk=>Wd P v _ k W hW (λx hx=>hb.blank k x (by rw [hC];exact hk) (by rw [<-hql];exact hx));have hln:∀(W:World),PadAt W P v q->Calls Tryz.prog 26 #[(.pointer (some ⟨P,0,none⟩))] W λe w'=>e= .returned (.int .i64 p.l.length)/\w'=W:=λW hW=>by have:=Nw P v _ W hW;rw [hql] at this;exact this
 have hr1:∀(W:World),PadAt W P v q->Calls Tryz.prog 103 #[(.pointer (some ⟨P,0,none⟩)),.int .i64 0] W λe w'=>∃v,e= .returned (.tuple #[v,.int .i64 (C:Int),.bool true])/\w'.ownsRow 0 5 1 v B.length (B.flatMap u8c)/\Keeps (λ_=>False) W w'/\(∀g,v.ownBlock=some g->W.heap.size<=g):=λW hW=>by
  have:=jRecord_ok P 0 B.length B W hB rfl hB1 hB2 (by rw [hC];omega) (λi V hi hk=>hrecs V i (hW.keeps hk (by simp)) (by rw [<-hC];exact hi));rw [Nat.zero_add,hC] at this;exact this
 have hr2:∀(W:World),PadAt W P v q->Calls Tryz.prog 103 #[(.pointer (some ⟨P,0,none⟩)),.int .i64 (C:Int)] W λe w'=>e= .returned (.tuple #[.slice none 0 0,.int .i64 0,.bool false])/\Keeps (λ_=>False) W w':=λW hW=>Acg P C W (λV hk=>hlb V C (hW.keeps hk (by simp)) (Nat.le_refl _));rw [hq] at hdry;obtain⟨m,hm⟩:∃m,p.l.length=m:=⟨_,rfl⟩;obtain⟨mB,hmB⟩:∃m,B.length=m:=⟨_,rfl⟩;rw [hm] at hln hm2 hroom;rw [hmB] at hr1;obtain⟨H,H1,H2,Hw1,Hk1,HJ1,Hp1,Hdry,Hlt⟩:=hid9 h h1 h2 hw1 hk1 hJ1 hp1 hdry hlt;clear hlt hdry hp1 hJ1 hk1 hw1 h2 h1 h;obtain⟨Hlb,Hln,Hm,HmB,Hb,Hr1,Hr2,Hrecs,Hq⟩:=hid9 hlb hln hm hmB hb hr1 hr2 hrecs hq;clear hq hrecs hr2 hr1 hb hmB hm hln hlb;obtain⟨Hql,HC,Hi,Hi0,Hi1,Hi2,HB⟩:=hid7 hql hC hi hi0 hi1 hi2 hB;clear hB hi2 hi1 hi0 hi hC hql;go_enter Tryz.func57,Tryz.ntmps57
 go_wp2_with (first|(go_at_call 100;(with_reducible refine H1.out.mono ?_);rintro e w2 ⟨rfl,hw2⟩;subst w2)|(go_at_call 101;(with_reducible refine H2.out.mono ?_);rintro e w2 ⟨rfl,hw2⟩;subst w2)|(go_at_call 102;rw [<-Hw1.out];(with_reducible refine Hdry.out.mono ?_);rintro e w3 ⟨rfl,hp3,hk3⟩;have Hp3:=Lib.hid hp3;have Hk3:=Lib.hid hk3;clear hp3 hk3))
 obtain⟨J,hJe⟩:∃J,w.heap.size=J:=⟨_,rfl⟩;have hk03:Keeps (PFoot P v) w w3:=(Hk1.out.mono λ_ _ h=>h.elim).trans (Hk3.out.mono λ_ _ e=> .inl e)
 have hfw:∀k,PFoot P v k->k<J:=by
  rintro k (rfl|hk)
  ·rw [<-hJe];exact lt_of_block H.out.blk
  ·rw [<-hJe];exact(Hlt.out k hk).2
 have hJ3:w3.heap[J]?=some (.cells #[(.pointer (some ⟨P,0,none⟩)),.int .i64 p.fl,.slice none 0 0,.int .i64 0] 168 (0,0)):=by
  have:=HJ1.out;rw [hJe] at this;rw [Hk3.out.block _ (lt_of_block this) (λe=>by have:=hfw _ e;omega)];exact this
 have hst:JoSt w3 w3 J P p.fl B (.slice none 0 0) 0:=⟨Keeps.refl _ _,⟨hJ3⟩,.inl ⟨rfl,rfl⟩⟩;rw [hJe];obtain⟨Hk03,HJ3,Hfw,Hst,HJe⟩:=hid5 hk03 hJ3 hfw hst hJe;clear hJe hst hfw hJ3 hk03
 go_loopw [8] (λ_ wr=>∃vl us,JoSt w3 wr J P p.fl B vl us) (λ_ wr=>usedM J wr)
 case atStart=>exact⟨_,_,Hst.out⟩
 case round=>
  obtain⟨vl,us,hs⟩:=hrel;obtain⟨w4,hw4⟩:∃x,x=wr:=⟨_,rfl⟩;subst hw4;have c0:=Aa hs.jr.blk 2;have c3:=Aa hs.jr.blk 3;have f2:=Ab hs.jr.blk 2;have f3:=Ab hs.jr.blk 3;have lJ:=lt_of_block hs.jr.blk;have hp4:=Hp3.out.keeps hs.kp (λk hk e=>by have:=Hfw.out k hk;omega);rcases hs.st with⟨rfl,rfl⟩|⟨rfl,vb,hrl,hrb,hn1,hn2⟩
  ·have hrc:=Hr1.out w4 hp4;obtain⟨Hs,Hp4,Hrc⟩:=hid3 hs hp4 hrc;clear hrc hp4 hs;have hms:=Hs.out.meas;have Hms:=Lib.hid hms;clear hms
   go_wp2_with (first|(go_at_call 103;(with_reducible refine Hrc.out.mono ?_);rintro e w5 ⟨vb,rfl,hrow5,hk5,hn5⟩;obtain⟨ab,cb,rfl,_,_⟩:=Af hrow5;have c0':=(hk5.cell lJ (by simp)).trans c0;have hj5:=Ad Hs.out.jr.blk hk5 (by simp);have f2':=Ab hj5 2;have f3':=Ab hj5 3;have c3':=Aa hj5 3;have lJ':=lt_of_block hj5;have Hrow5:=Lib.hid hrow5;have Hk5:=Lib.hid hk5;have Hn5:=Lib.hid hn5;have Hj5:=Lib.hid hj5;clear hrow5 hk5 hn5 hj5)|(at_builtin;refine Au rfl (.tmp 46) (.tmp 48) 107 rfl 0 24 i0 _ 1 24 Tryz.underlying107 Hi.out Hi0.out Hi1.out Hi2.out rfl yy1 (.slice none 0 0) 0 [] rfl (World.ownsRow_nil _ _ _ _) _ 1 _ rfl (Reads.lit _ _ _ _ _ rfl) (by simp [Value.oneCell']) yy4 yy0 yy0 ?_;intro v6 w6 hown6 hk6 hf6;obtain⟨a6,c6,rfl,_,_⟩:=Af hown6;have hk56:Keeps (λ_=>False) w5 w6:=(Keeps.alloc _ _).trans (hk6.mono λk _ e=>by simp [Value.ownBlock] at e);have hj6:=Ad Hj5.out hk56 (by simp);have g2:=Ab hj6 2;have g3:=Ab hj6 3;have d2:=Aa hj6 2;have d3:=Aa hj6 3;have l6:=lt_of_block hj6;have Hown6:=Lib.hid hown6;have Hk56:=Lib.hid hk56;have Hf6:=Lib.hid hf6;clear hown6 hk6 hf6 hj6 c0' c3' f2' f3' lJ'))
   have hfn:∀g,(Value.slice a6 1 c6).ownBlock=some g->w5.heap.size<=g:=λg hg=>by
    rcases Hf6.out with e|⟨g',e,h⟩
    ·have:=e.symm.trans hg;simp [Value.ownBlock] at this
    ·rw [hg] at e;have e':g=g':=Option.some.inj e;simp at h;omega
   have hrw5:=Hrow5.out;rw [<-HmB.out] at hrw5 Hown6 Hn5;have hend:=Hs.out.put Hk5.out Hk56.out hrw5 Hn5.out Hown6.out hfn;have hm2:=hend.meas;rw [HC.out] at hend hm2;refine⟨⟨_,_,hend⟩, ?_⟩;rw [hm2,Hms.out];omega
  ·rw [HC.out] at c3;have hrc:=Hr2.out w4 hp4;obtain⟨Hs,Hp4,Hrc,Hrl,Hrb,Hn1,Hn2⟩:=hid7 hs hp4 hrc hrl hrb hn1 hn2;clear hn2 hn1 hrb hrl hrc hp4 hs;clear c0 f2 f3
   go_wp2_with (go_at_call 103;(with_reducible refine Hrc.out.mono ?_);rintro e w5 ⟨rfl,hk5⟩;have c5:w5.cell? ⟨J,3,none⟩=some (.int .i64 (C:Int)):=(hk5.cell lJ (by simp)).trans c3;have l5:=Nat.lt_of_lt_of_le lJ hk5.size;have Hk5:=Lib.hid hk5;clear hk5)
   go_loopw [9] (λa wr=>∃k:Nat,C<=k/\k<=m/\a= .int .i64 k/\Keeps (λ_=>False) w4 wr) (λa _=>m-(intOf a).toNat)
   case atStart=>exact⟨C,Nat.le_refl _,hroom,rfl,Hk5.out⟩
   case round=>
    obtain⟨k,hCk,hk,rfl,hkr⟩:=hrel;have hpr:=Hp4.out.keeps hkr (by simp);have hl1:=Hln.out wr hpr;have hl2:=Hlb.out wr k hpr hCk;by_cases hkm:k<m
    ·have hkI:(k:Int)<(m:Int):=yy2;obtain⟨Hkr,Hpr,Hl1,Hl2⟩:=hid4 hkr hpr hl1 hl2;clear hl2 hl1 hpr hkr
     go_wp2_with (first|(go_at_call 26;(with_reducible refine Hl1.out.mono ?_);rintro e w6 ⟨rfl,hw6⟩;subst w6)|(go_at_call 38;(with_reducible refine Hl2.out.mono ?_);rintro e w6 ⟨rfl,hk6⟩;have Hk6:=Lib.hid hk6;clear hk6)|(refine wpList_store_row rfl 75 (.tmp 10) (.tmp 69) rfl w6.heap.size (b48 []).toArray rfl rfl 75 (b48 (List.replicate 48 0)).toArray (heap_alloc_new w6 _) Be rfl (Dx _) ?_))
     refine⟨⟨k+1,by omega,by omega,by go_num,(Keeps.nt (Keeps.nt Hkr.out Hk6.out) (Keeps.alloc _ _)).trans ((Keeps.setRow _ _ _).mono λi _ e=> .inr (by have:=Hkr.out.size;have:=Hk6.out.size;omega))⟩,by simp [intOf];omega⟩
    ·obtain rfl:k=m:=by omega
     have hkJ:Keeps (λk=>k=J) w3 wr:=Hs.out.kp.trans (hkr.mono (by simp));have hend:JOne w P v p B (.returned (.tuple #[(.pointer (some ⟨J,0,none⟩)),.int .i64 0])) wr:=⟨J,vl,vb,rfl,Nat.le_of_eq HJe.out,⟨Ad Hs.out.jr.blk hkr (by simp)⟩,hkr.row Hrl.out (by simp),hkr.row Hrb.out (by simp),λg hg=>Nat.le_trans Hk03.out.size (Hn1.out g hg),λg hg=>Nat.le_trans Hk03.out.size (Hn2.out g hg),by rw [Hq.out];exact hpr,Hk03.out.trans (hkJ.mono λi _ e=> .inr (by have:=HJe.out;omega))⟩;obtain⟨Hkr,Hpr,Hl1,Hl2,Hend⟩:=hid5 hkr hpr hl1 hl2 hend;clear hend hl2 hl1 hpr hkr
     go_wp2_with (first|(go_at_call 26;(with_reducible refine Hl1.out.mono ?_);rintro e w6 ⟨rfl,hw6⟩;subst w6))
     exact bodyPost_ret (v:= .tuple #[(.pointer (some ⟨J,0,none⟩)),.int .i64 0]) (by simp [results,Tryz.results57,go_sem]) rfl Hend.out
def JRecs(w:World)(B:List Int)(e:Ending)(w':World):Prop:=∃vl vb,e= .returned vl/\w'.ownsRow 0 24 1 vl 1 [vb]/\w'.ownsRow 0 5 1 vb B.length (B.flatMap u8c)/\Keeps (λ_=>False) w w'/\(∀g,vb.ownBlock=some g->w.heap.size<=g)
theorem jRecords_one(J P:Nat)(fl used:Int)(vl vb:Value)(B:List Int)(w:World)(h:JrnAt w J P fl vl used)(hrl:w.ownsRow 0 24 1 vl 1 [vb])(hrb:w.ownsRow 0 5 1 vb B.length (B.flatMap u8c))(hB:B.length<=1000000):
  Calls Tryz.prog 59 #[(.pointer (some ⟨J,0,none⟩))] w (JRecs w B):=by
 obtain⟨i0,hi,hi0,hi1,hi2⟩:=info_parts Ab7;obtain⟨al,cl,rfl,_,_⟩:=Af hrl;obtain⟨ab,cb,rfl,_,_⟩:=Af hrb
 have hown:∃g,al=some ⟨g,0,none⟩:=by
  rcases hrl.2 with⟨e,e2⟩|⟨g',cap',cur,hv,_⟩
  ·exact absurd (Value.slice.inj e).2.1 yy0
  ·exact⟨g',(Value.slice.inj hv).1⟩
 obtain⟨g,rfl⟩:=hown;have c2:w.cell? ⟨J,2,none⟩=some (.slice (some ⟨g,0,none⟩) 1 cl):=Aa h.blk 2;have cg:w.cell? ⟨g,0,none⟩=some (.slice ab B.length cb):=by have:=hrl.cells (g:=g) rfl 0 _ rfl;rw [Dy] at this;exact this
 have lJ:=lt_of_block h.blk;have lg:=Ag cg;have hcl:=λW (hW:Keeps (λ_=>False) w W)=>Wj W (.slice ab B.length cb) B.length (B.flatMap u8c) (Reads.Ay (hW.row hrb (by simp))) (u8c_one B) yy0;obtain⟨m,hm⟩:∃m,B.length=m:=⟨_,rfl⟩;have hfin:∀vl' vb' w',w'.ownsRow 0 24 1 vl' 1 [vb']->w'.ownsRow 0 5 1 vb' m (B.flatMap u8c)->Keeps (λ_=>False) w w'->(∀g,vb'.ownBlock=some g->w.heap.size<=g)->JRecs w B (.returned vl') w':=λvl' vb' w' h1 h2 h3 h4=>⟨vl',vb',rfl,h1,by rw [hm];exact h2,h3,h4⟩;rw [hm] at hcl cg hB;obtain⟨H,Hrl,Hrb,Hcl,Hm,Hfin,Hi,Hi0,Hi1⟩:=hid9 h hrl hrb hcl hm hfin hi hi0 hi1;clear hi1 hi0 hi hfin hm hcl hrb hrl h;have Hi2:=Lib.hid hi2;clear hi2;go_enter Tryz.func59,Tryz.ntmps59;go_wp2_with fail
 go_loopw [3,13] (λb c wr=>Keeps (λ_=>False) w wr/\((b= .slice none 0 0/\c= .int .i64 0)\/(c= .int .i64 1/\∃a k vb',b= .slice a 1 k/\wr.ownsRow 0 24 1 b 1 [vb']/\wr.ownsRow 0 5 1 vb' m (B.flatMap u8c)/\∀g,vb'.ownBlock=some g->w.heap.size<=g))) (λ_ c _=>1-(intOf c).toNat)
 case atStart=>exact⟨Keeps.refl _ _,.inl ⟨rfl,rfl⟩⟩
 case round=>
  obtain⟨hk,⟨rfl,rfl⟩|⟨rfl,a,k,vb',rfl,h1,h2,h3⟩⟩:=hrel
  ·obtain⟨w4,hw4⟩:∃x,x=wr:=⟨_,rfl⟩;subst hw4;have cg4:=(hk.cell lg (by simp)).trans cg;have lg4:=Nat.lt_of_lt_of_le lg hk.size;have Hk:=Lib.hid hk;clear hk
   go_wp2_with (first|(go_at_call 109;(with_reducible refine(Hcl.out _ Hk.out).mono ?_);rintro e w5 ⟨v5,rfl,hrow5,hk5,hn5⟩;obtain⟨a5,c5,rfl,_,_⟩:=Af hrow5;have Hrow5:=Lib.hid hrow5;have Hk5:=Lib.hid hk5;have Hn5:=Lib.hid hn5;clear hrow5 hk5 hn5)|(at_builtin;refine Au rfl (.tmp 17) (.tmp 20) 107 rfl 0 24 i0 _ 1 24 Tryz.underlying107 Hi.out Hi0.out Hi1.out Hi2.out rfl yy1 (.slice none 0 0) 0 [] rfl (World.ownsRow_nil _ _ _ _) _ 1 _ rfl (Reads.lit _ _ _ _ _ rfl) (by simp [Value.oneCell']) yy4 yy0 yy0 ?_;intro v6 w6 hown6 hk6 hf6;obtain⟨a6,c6,rfl,_,_⟩:=Af hown6;have hk56:Keeps (λ_=>False) w5 w6:=(Keeps.alloc _ _).trans (hk6.mono λk _ e=>by simp [Value.ownBlock] at e);have Hown6:=Lib.hid hown6;have Hk56:=Lib.hid hk56;clear hown6 hk6 hf6 hk56))
   refine⟨⟨Hk.out.nt (Hk5.out.nt Hk56.out),.inr ⟨rfl,a6,c6,_,rfl,Hown6.out,Hk56.out.row Hrow5.out (by simp),λg hg=>Nat.le_trans Hk.out.size (Hn5.out g hg)⟩⟩,by simp [intOf]⟩
  ·have hend:=Hfin.out _ _ _ h1 h2 hk h3;clear h1 h2 h3;obtain⟨Hk,Hend⟩:=hid2 hk hend;clear hend hk;go_wp2;go_ret;exact Hend.out
theorem strOf_list(L:List Int):∀r:ByteArray,(L.foldl (λr n=>r.push (UInt8.ofNat n.toNat)) r).data.toList=r.data.toList++L.map λn=>UInt8.ofNat n.toNat:=by
 induction L with
 |nil=>intro r;simp
 |cons a L ih=>intro r;rw [List.foldl_cons,ih];simp [ByteArray.push]
theorem strOf_inj{X Y:List Int}(hX:∀z∈X,0<=z/\z<=255)(hY:∀z∈Y,0<=z/\z<=255)(h:(strOf X).toList=(strOf Y).toList):X=Y:=by
 have h1:X.map (λn=>UInt8.ofNat n.toNat)=Y.map λn=>UInt8.ofNat n.toNat:=by
  have a:=strOf_list X ByteArray.empty;have b:=strOf_list Y ByteArray.empty;rw [Lib.toList_data,Lib.toList_data] at h;unfold strOf at h;rw [h,b] at a
  simpa using a.symm
 clear h
 induction X generalizing Y with
 |nil=>cases Y with
  |nil=>rfl
  |cons _ _=>simp at h1
 |cons x X ih=>cases Y with
  |nil=>simp at h1
  |cons y Y=>
   rw [List.map_cons,List.map_cons] at h1;obtain⟨h2,h3⟩:=List.cons.inj h1;have hx:=hX x (by simp);have hy:=hY y (by simp)
   have h4:x=y:=by
    have h5:=congrArg UInt8.toNat h2;simp only [UInt8.toNat_ofNat'] at h5;omega
   rw [h4,ih (λz hz=>hX z (by simp [hz])) (λz hz=>hY z (by simp [hz])) h3]
theorem bytesEqual_any(a1 a2:Option Addr)(c1 c2:Nat)(X Y:List Int)(w:World)(h1:Reads w 1 (.slice a1 X.length c1) X.length (X.flatMap u8c))(h2:Reads w 1 (.slice a2 Y.length c2) Y.length (Y.flatMap u8c))(hX:∀z∈X,0<=z/\z<=255)(hY:∀z∈Y,0<=z/\z<=255):
  Calls Tryz.prog 61 #[.slice a1 X.length c1,.slice a2 Y.length c2] w λe w'=>e= .returned (.bool (decide (X=Y)))/\w=w':=by
 have q1:=conv_bytes (src:=24) (dst:=9) Tryz.underlying24 Tryz.underlying5 Tryz.underlying9 h1;have q2:=conv_bytes (src:=24) (dst:=9) Tryz.underlying24 Tryz.underlying5 Tryz.underlying9 h2
 have he:decide (X=Y)=((strOf X).toList==(strOf Y).toList):=by
  by_cases h:X=Y
  ·simp [h]
  ·rw [decide_eq_false h];exact(beq_eq_false_iff_ne.2 λe=>h (strOf_inj hX hY e)).symm
 rw [he];obtain⟨s1,hs1⟩:∃s,strOf X=s:=⟨_,rfl⟩;obtain⟨s2,hs2⟩:∃s,strOf Y=s:=⟨_,rfl⟩;rw [hs1] at q1⊢;rw [hs2] at q2⊢;clear he hs1 hs2;obtain⟨H1,H2⟩:=hid2 h1 h2;clear h2 h1;go_enter Tryz.func61,Tryz.ntmps61;go_wp2;go_ret;exact⟨rfl,rfl⟩
theorem svOpen_one(t:Tm)(Bz:List Int)(R:Ending->World->Prop)(ad:Option Addr)(cap:Nat)(P:Nat)(v:Value)(p:Pd)(w:World)(hr:Reads w 2 (.slice ad t.trs.length cap) t.trs.length (t.trs.flatMap Tn.cells))(hsp:∀g,(Value.slice ad t.trs.length cap).ownBlock=some g->¬PFoot P v g)(hre:Dl t [] t.start=0)(hp:PadAt w P v p)(hd:p.dn=false)(hs:p.sn=0)(hb:OneRec p Bz)(hf:p.fl+1<=1000000)(hz0:∀z∈Bz,0<=z/\z<=255)(hz1:1<=Bz.length)(hz2:Bz.length<=1000000)(hroom:chunks Bz.length<=p.l.length)
  (hR1:Dr t=Bz->∀e w',SvNew w P v p p.fl (chunks Bz.length) (acNew t) e w'->R e w') (hR2:¬Dr t=Bz->∀e w',e= .returned (.tuple #[.pointer none,.int .i64 6])->PadAt w' P v p->Keeps (PFoot P v) w w'->R e w'):
  Calls Tryz.prog 20 #[(.pointer (some ⟨P,0,none⟩)),t.val (.slice ad t.trs.length cap)] w R:=by
 have hz:=(Ea hre).tm;have hl8:=Aa1 hz;have hlen:=tpack_len t;have hpk:=λW (hW:Keeps (λ_=>False) w W)=>Vp t ad cap W (hr.keeps hW (λ_ _ h=>h)) yy0;rw [hz] at hpk;simp only [if_true] at hpk;have hnew:=λW (hW:Reads W 2 (.slice ad t.trs.length cap) t.trs.length (t.trs.flatMap Tn.cells))=>accNew_ok t _ W hW hre;obtain⟨B,hB⟩:∃B,Dr t=B:=⟨_,rfl⟩;have hBok:=tpack_ok t;obtain⟨A,hA⟩:∃A,acNew t=A:=⟨_,rfl⟩;rw [hB] at hlen hpk hBok hR1 hR2;rw [hA] at hR1;unfold NewAc at hnew;rw [hA] at hnew;obtain⟨li,cy,du,mf,mp,st,trs⟩:=t;simp only [Tm.val] at hr hsp hpk hnew hl8 hlen⊢;obtain⟨n,hn⟩:∃n,trs.length=n:=⟨_,rfl⟩;rw [hn] at hr hsp hpk hnew hl8 hlen⊢;clear hB hA;obtain⟨Hr,Hsp,Hpk,Hnew,Hp,Hb,HBok,Hlen,Hroom⟩:=hid9 hr hsp hpk hnew hp hb hBok hlen hroom;clear hroom hlen hBok hb hp hnew hpk hsp hr;obtain⟨Hn,Hz,Hre,HR1,HR2,Hz0,Hz1,Hz2⟩:=hid8 hn hz hre hR1 hR2 hz0 hz1 hz2;clear hz2 hz1 hz0 hR2 hR1 hre hz hn;go_enter Tryz.func20,Tryz.ntmps20;go_wp2_with fail;refine Az 0 rfl ?_;go_wp2_with fail;refine(Hpk.out _ (Keeps.alloc _ _)).mono ?_;rintro e w1 ⟨vb,rfl,hnb⟩;have hrow1:=hnb.row;have hkw1:=Keeps.nt yh hnb.kp;have hT1:=Ad (heap_alloc_new w (.cells #[.int .i64 li,.slice ad n cap,.int .i64 cy,.int .i64 du,.int .i64 mf,.int .i64 mp,.int .i64 st] 44)) hnb.kp (by simp);have hnw:∀g,vb.ownBlock=some g->w.heap.size<=g:=λg hg=>by have:=hnb.nw g hg;simp at this;omega
 obtain⟨ab,cb,rfl,_,_⟩:=Af hrow1;have hjo:=λW (hW:Keeps (λ_=>False) w W)=>jOpen_one P v p Bz W (Hp.out.keeps hW (by simp)) hf hd (by rw [hs];decide) Hb.out Hz0.out Hz1.out Hz2.out Hroom.out
 have hst:Dc p=p:=by
  obtain⟨l0,sn0,fl0,dn0⟩:=p;simp only at hs;subst hs;rfl
 unfold JOne at hjo;rw [hst] at hjo
 have hfw:∀k,PFoot P v k->k<w.heap.size:=by
  rintro k (rfl|hk)
  ·exact lt_of_block Hp.out.blk
  ·exact(Hp.out.row.lt k hk).2
 have hlt1:=lt_of_block hT1;clear hnb hst;obtain⟨Hrow1,Hkw1,HT1,Hnw,Hjo⟩:=hid5 hrow1 hkw1 hT1 hnw hjo;clear hjo hnw hT1 hkw1 hrow1;go_wp2_with fail;have hS2:=heap_alloc_new w1 (.cells #[(.pointer (some ⟨P,0,none⟩)),.pointer none,.pointer none] 112);have hkw2:=Keeps.nt Hkw1.out yi;refine(Hjo.out _ hkw2).mono ?_;rintro e w3 ⟨J,vl,vb3,rfl,hJl,hj3,hvl3,hvb3,hnl3,hnb3,hp3,hk3⟩;obtain⟨S,hS⟩:∃S,S=w1.heap.size:=⟨_,rfl⟩;rw [<-hS] at hS2⊢;have hSl:w.heap.size<S:=yy2;have hJS:S<J:=by simp at hJl;omega
 have nS:¬PFoot P v S:=λe=>by have:=hfw _ e;omega
 have hS3:=Ad hS2 hk3 nS;have hkw3:Keeps (PFoot P v) w w3:=(hkw2.mono (by simp)).trans (hk3.mono λi _ e=> .inl e);have hT3:=Ad (Ad HT1.out yi (by simp)) hk3 (λe=>by have:=hfw _ e;omega);have hrow3:=hk3.row ((Keeps.alloc (S:=λ_=>False) w1 (.cells #[(.pointer (some ⟨P,0,none⟩)),.pointer none,.pointer none] 112)).row Hrow1.out (by simp)) (λk hk e=>by have:=Hnw.out k hk;have:=hfw k e;omega);have s1:=Aa hS3 1;have f1:=Ab hS3 1;have sl:=lt_of_block hS3;obtain⟨hnl,hnb⟩:(∀g,vl.ownBlock=some g->w.heap.size<=g)/\True:=⟨λg hg=>by have:=hnl3 g hg;have:=hkw2.size;omega,trivial⟩;clear hS2 hk3 hJl hkw2 hnl3 hnb3 hnb;obtain⟨Hj3,Hp3,HS3,Hkw3,HT3,Hrow3,HS,Hvl3,Hvb3⟩:=hid9 hj3 hp3 hS3 hkw3 hT3 hrow3 hS hvl3 hvb3;clear hvb3 hvl3 hS hrow3 hT3 hkw3 hS3 hp3 hj3;have Hnl:=Lib.hid hnl;clear hnl
 go_upto_region 8 with fail
 refine Kt λw4 hw4=> ?_;have hk4:Keeps (λi=>i=S) w3 w4:=by rw [hw4];exact Keeps.setCell _ _ _ rfl
 have hS4:w4.heap[S]?=some (.cells #[(.pointer (some ⟨P,0,none⟩)),(.pointer (some ⟨J,0,none⟩)),.pointer none] 112 (0,0)):=by rw [hw4];exact(heap_setCell_same _ _ 1 _ _ (.pointer (some ⟨J,0,none⟩)) HS3.out).trans rfl
 have hT4:=Ad HT3.out hk4 (by show¬w.heap.size=S;omega);have hvl4:=hk4.row Hvl3.out (λk hk e=>by have e':k=S:=e;exact Ai Hvl3.out HS3.out yy1 (e'▸hk));have hvb4:=hk4.row Hvb3.out (λk hk e=>by have e':k=S:=e;exact Ai Hvb3.out HS3.out yy1 (e'▸hk));have hj4:JrnAt w4 J P p.fl vl (chunks Bz.length):=⟨Ad Hj3.out.blk hk4 (by show¬J=S;omega)⟩;have hp4:=Hp3.out.keeps hk4 (λk hk e=>by have e':k=S:=e;exact nS (e'▸hk));have hrow4:=hk4.row Hrow3.out (λk hk e=>by have e':k=S:=e;exact Ai Hrow3.out HS3.out yy1 (e'▸hk));have hkw4:Keeps (PFoot P v) w w4:=Hkw3.out.trans (hk4.mono λi _ e=> .inr yy0);have hrd4:Reads w4 2 (.slice ad n cap) n (trs.flatMap Tn.cells):=Hr.out.keepB hkw4 (λg hg _ e=>Hsp.out g hg e);have t0:=Aa hT4 0;have t1:=Aa hT4 1;have t2:=Aa hT4 2;have t3:=Aa hT4 3;have t4:=Aa hT4 4;have t5:=Aa hT4 5;have t6:=Aa hT4 6;have tl:=lt_of_block hT4;clear s1 f1 sl hw4;obtain⟨Hk4,HS4,HT4,Hj4,Hp4,Hrow4,Hkw4,Hrd4,Hvl4⟩:=hid9 hk4 hS4 hT4 hj4 hp4 hrow4 hkw4 hrd4 hvl4;clear hvl4 hrd4 hkw4 hrow4 hp4 hj4 hT4 hS4 hk4;have Hvb4:=Lib.hid hvb4;clear hvb4;go_wp2_with fail;refine(Hnew.out w4 Hrd4.out).mono ?_;rintro e w5 ⟨Ba,x,rfl,hA5,hk5,hf5⟩;have hS5:=Ad HS4.out hk5 (by simp);have s2:=Aa hS5 2;have f2:=Ab hS5 2;have sl:=lt_of_block hS5;clear t0 t1 t2 t3 t4 t5 t6 tl;obtain⟨HA5,Hk5,Hf5,HS5⟩:=hid4 hA5 hk5 hf5 hS5;clear hS5 hf5 hk5 hA5
 go_upto_region 10 with fail
 refine Kt λw6 hw6=> ?_;have hk6:Keeps (λi=>i=S) w5 w6:=by rw [hw6];exact Keeps.setCell _ _ _ rfl
 have hS6:w6.heap[S]?=some (.cells #[(.pointer (some ⟨P,0,none⟩)),(.pointer (some ⟨J,0,none⟩)),(.pointer (some ⟨Ba,0,none⟩))] 112 (0,0)):=by rw [hw6];exact(heap_setCell_same _ _ 2 _ _ (.pointer (some ⟨Ba,0,none⟩)) HS5.out).trans rfl
 have hk46:Keeps (λi=>i=S) w4 w6:=(Hk5.out.mono (by simp)).trans (hk6.mono λi _ e=> .inl e);have hj6:JrnAt w6 J P p.fl vl (chunks Bz.length):=⟨Ad Hj4.out.blk hk46 (by show¬J=S;omega)⟩;have hp6:=Hp4.out.keeps hk46 (λk hk e=>by have e':k=S:=e;exact nS (e'▸hk));have hrow6:=hk46.row Hrow4.out (λk hk e=>by have e':k=S:=e;exact Ai Hrow4.out HS4.out yy1 (e'▸hk));have hvl6:=hk46.row Hvl4.out (λk hk e=>by have e':k=S:=e;exact Ai Hvl4.out HS4.out yy1 (e'▸hk));have hvb6:=hk46.row Hvb4.out (λk hk e=>by have e':k=S:=e;exact Ai Hvb4.out HS4.out yy1 (e'▸hk));have hkw6:Keeps (PFoot P v) w w6:=Hkw4.out.trans (hk46.mono λi _ e=> .inr yy0)
 have hA6:=HA5.out.keeps hk6 λb hb e=>by
  have e':b=S:=e;have hy:TyAt w5 b 112:=by rw [e'];exact⟨_,_,HS5.out⟩
  exact absurd (HA5.out.ty hb hy) yy1
 have hjr:=jRecords_one J P p.fl _ vl vb3 Bz w6 hj6 hvl6 hvb6 Hz2.out;obtain⟨Bn,hBn⟩:∃n,B.length=n:=⟨_,rfl⟩;obtain⟨Zn,hZn⟩:∃n,Bz.length=n:=⟨_,rfl⟩;rw [hBn] at hrow6⊢;have s1:=Aa hS6 1;have sl6:=lt_of_block hS6;clear s2 f2 sl hw6;obtain⟨Hk6,HS6,Hk46,Hj6,Hp6,Hrow6,Hkw6,HA6,Hjr⟩:=hid9 hk6 hS6 hk46 hj6 hp6 hrow6 hkw6 hA6 hjr;clear hjr hA6 hkw6 hrow6 hp6 hj6 hk46 hS6 hk6;obtain⟨Hvl6,Hvb6,HBn,HZn⟩:=hid4 hvl6 hvb6 hBn hZn;clear hZn hBn hvb6 hvl6;go_wp2_with fail;refine Hjr.out.mono ?_;rintro e w7 ⟨vl2,vb2,rfl,hl7,hb7,hk7,_⟩;rw [HZn.out] at hb7;obtain⟨al2,cl2,rfl,_,_⟩:=Af hl7;obtain⟨ab2,cb2,rfl,_,_⟩:=Af hb7
 have hown:∃g,al2=some ⟨g,0,none⟩:=by
  rcases hl7.2 with⟨e,e2⟩|⟨g',cap',cur,hv,_⟩
  ·exact absurd (Value.slice.inj e).2.1 yy0
  ·exact⟨g',(Value.slice.inj hv).1⟩
 obtain⟨g2,rfl⟩:=hown;have cg:w7.cell? ⟨g2,0,none⟩=some (.slice ab2 Zn cb2):=by have:=hl7.cells (g:=g2) rfl 0 _ rfl;rw [Dy] at this;exact this
 have lg:=Ag cg;have hbe:=bytesEqual_any ab2 ab cb2 cb Bz B w7 (Reads.Ay (by rw [HZn.out];exact hb7)) (Reads.Ay (by rw [HBn.out];exact hk7.row Hrow6.out (by simp))) Hz0.out HBok.out;rw [HZn.out,HBn.out] at hbe;have hkw7:=Hkw6.out.trans (hk7.mono (by simp));have hp7:=Hp6.out.keeps hk7 (by simp);have hs4:=Hkw4.out.size;have hs6:=Hkw6.out.size
 have hfin:SvNew w P v p p.fl (chunks Bz.length) A (.returned (.tuple #[(.pointer (some ⟨S,0,none⟩)),.int .i64 0])) w7:=⟨⟨S,P,J,Ba,v,vl,x⟩,_,rfl,rfl,rfl,⟨Ad HS6.out hk7 (by simp),hp7,⟨Ad Hj6.out.blk hk7 (by simp)⟩,hk7.row Hvl6.out (by simp),HA6.out.keep0 hk7⟩,hkw7,λb hb=>by
  rcases hb with e|(e|e|e)|e
  ·exact .inr (by have e':b=S:=e;omega)
  ·exact .inr (by have e':b=J:=e;omega)
  ·exact .inl e
  ·exact .inr (Hnl.out b e)
  ·have:=Hf5.out b (.inl e);exact .inr (by omega),λb hb=>by have:=Hf5.out b (.inr hb);omega⟩
 clear s1 sl6 hl7 hb7 hk7 hs4 hs6;by_cases heq:B=Bz
 ·rw [decide_eq_true heq.symm] at hbe;have hR:=HR1.out heq _ _ hfin;clear hfin heq;obtain⟨Hbe,Hkw7,Hp7,HR⟩:=hid4 hbe hkw7 hp7 hR;clear hR hp7 hkw7 hbe;go_wp2_with fail;refine Hbe.out.mono ?_;rintro e w8 ⟨rfl,hw8⟩;subst hw8;by_cases hc1:cl2=1
  ·subst hc1;exact yj
  ·skip
   exact yj
 ·rw [decide_eq_false (λe=>heq e.symm)] at hbe;have hR:=HR2.out heq _ _ rfl hp7 hkw7;clear hfin heq;obtain⟨Hbe,Hkw7,Hp7,HR⟩:=hid4 hbe hkw7 hp7 hR;clear hR hp7 hkw7 hbe;go_wp2_with fail;refine Hbe.out.mono ?_;rintro e w8 ⟨rfl,hw8⟩;subst hw8;go_wp2;go_step3;go_wp2;refine Aw ?_;go_wp2;exact HR.out
theorem oneRec_ink{p:Pd}{B:List Int}(hb:∀x∈p.l,x.is=0)(hroom:chunks B.length<=p.l.length):OneRec (inkP 0 B p) B:=by
 refine⟨λi hi=> ?_,λi x hi hx=> ?_⟩
 ·rw [inkP_get,if_pos yy0];obtain⟨y,hy⟩:=Ar (show i<p.l.length by omega);rw [hy,Option.map_some]
  congr 2
  unfold pgR recLeaf;have e1:(i-0==0)=decide (i=0):=by rw [Nat.sub_zero];rfl
  have e2:(i-0+1==chunks B.length)=decide (i+1=chunks B.length):=by rw [Nat.sub_zero];rfl
  rw [e1,e2,Nat.sub_zero,Nat.mul_comm i 41,Nat.zero_add,if_pos];by_cases hl:i+1=chunks B.length
  ·exact .inr (by simp [hl])
  ·left
   rw [List.length_take,List.length_drop];unfold chunks at hi hl;omega
 ·rw [inkP_get,if_neg yy0] at hx;rcases hy:p.l[i]? with _|y
  ·rw [hy] at hx;cases hx
  ·rw [hy] at hx;simp only [Option.map_some,Option.some.injEq] at hx;subst hx;have h0:=hb y (List.mem_of_getElem? hy);unfold dryL;rw [if_neg yy0];exact h0
theorem svOpen_bad(t:Tm)(ad:Option Addr)(cap:Nat)(P:Nat)(w:World)(hr:Reads w 2 (.slice ad t.trs.length cap) t.trs.length (t.trs.flatMap Tn.cells))(hl:t.trs.length<=1000000)(hz:t.err=6):
  Calls Tryz.prog 20 #[(.pointer (some ⟨P,0,none⟩)),t.val (.slice ad t.trs.length cap)] w λe w'=>e= .returned (.tuple #[.pointer none,.int .i64 6])/\Keeps (λ_=>False) w w':=by
 have hpk:=λW (hW:Keeps (λ_=>False) w W)=>Vp t ad cap W (hr.keeps hW (λ_ _ h=>h)) hl;rw [hz] at hpk;simp only [show¬(6:Int)=0 by decide,if_false] at hpk;obtain⟨li,cy,du,mf,mp,st,trs⟩:=t;simp only [Tm.val] at hpk⊢;obtain⟨n,hn⟩:∃n,trs.length=n:=⟨_,rfl⟩;rw [hn] at hpk⊢;clear hz hn hl;obtain⟨Hr,Hpk⟩:=hid2 hr hpk;clear hpk hr;go_enter Tryz.func20,Tryz.ntmps20;go_wp2_with fail;refine Az 0 rfl ?_;go_wp2_with fail;refine(Hpk.out _ (Keeps.alloc _ _)).mono ?_;rintro e w1 ⟨vb,rfl,hnb⟩;obtain⟨ab,cb,rfl,_,_⟩:=Af hnb.row;have hk1:=Keeps.nt yh hnb.kp;clear hnb;have Hk1:=Lib.hid hk1;clear hk1;go_wp2;go_step3;go_wp2;refine Aw ?_;go_wp2;rw [Exit.noGoto_ret];exact bodyPost_ret (v:= .tuple #[.pointer none,.int .i64 6]) (by simp [results,Tryz.results20,go_sem]) rfl ⟨rfl,Hk1.out⟩
def I64(z:Int):Prop:= -9223372036854775808<=z/\z<=9223372036854775807
theorem packN_inj{L M:List Int}(hL:∀z∈L,I64 z)(hM:∀z∈M,I64 z)(hl:L.length=M.length){T U:List Int}(h:packN L++T=packN M++U):L=M/\T=U:=by
 have h1:=List.append_inj h (by rw [Pp,Pp,hl]);refine⟨?_,h1.2⟩
 apply List.ext_getElem?
 intro i;rcases h2:L[i]? with _|v
 ·rw [List.getElem?_eq_none_iff] at h2;rw [List.getElem?_eq_none yy0]
 ·have hi:=(List.getElem?_eq_some_iff.1 h2).1;obtain⟨u,hu⟩:=Ar (L:=M) (k:=i) yy0;have a:=numAt_packN hL h2 [];have b:=numAt_packN hM hu [];rw [hu,<-a,h1.1,b]
theorem tnB_inj:∀{L M:List Tn},(∀x∈L,I64 x.rate)->(∀x∈M,I64 x.rate)->L.length=M.length->L.flatMap tnB=M.flatMap tnB->L=M
 | [], [],_,_,_,_=>rfl
 | [],_::_,_,_,h,_=>by simp at h
 |_::_, [],_,_,h,_=>by simp at h
 |x::L,y::M,hL,hM,h,e=>by
  rw [List.flatMap_cons,List.flatMap_cons] at e;have h1:=List.append_inj e rfl;have ih:=tnB_inj (L:=L) (M:=M) (λz hz=>hL z (by simp [hz])) (λz hz=>hM z (by simp [hz])) (by simpa using h) h1.2;have h2:=List.append_inj (show eight x.rate++ [if x.grace then 1 else 0]=eight y.rate++ [if y.grace then 1 else 0] from h1.1) rfl;have h3:x.rate=y.rate:=by rw [<-numOf_eight (hL x (by simp)),h2.1,numOf_eight (hM y (by simp))]
  have h4:x.grace=y.grace:=by
   have:=(List.cons.inj h2.2).1;rcases x with⟨_,_|_⟩<;>rcases y with⟨_,_|_⟩<;>simp_all
  obtain⟨a,b⟩:=x;obtain⟨c,d⟩:=y;simp only at h3 h4;rw [h3,h4,ih]
theorem Tm.bnd{t:Tm}(h:t.err=0):(∀z∈t.nums,I64 z)/\∀x∈t.trs,I64 x.rate:=by
 have hk:t.okB=true:=by
  unfold Tm.err at h;by_cases hk:t.okB=true
  ·exact hk
  ·rw [if_neg hk] at h;exact absurd h yy1
 simp only [Tm.okB,Bool.and_eq_true,inB,decide_eq_true_eq,List.all_eq_true] at hk;obtain⟨⟨⟨⟨a1,a2⟩,b1,b2⟩,hx⟩,⟨⟨⟨⟨c1,c2⟩,d1,d2⟩,e1,e2⟩,f1,f2⟩,g1,g2⟩:=hk;refine⟨λz hz=> ?_,λx hx'=> ?_⟩
 ·simp only [Tm.nums,List.mem_cons,List.not_mem_nil,or_false] at hz;unfold I64;rcases hz with rfl|rfl|rfl|rfl|rfl|rfl|rfl<;>omega
 ·have:=hx x hx';simp only [Tn.okB,inB,Bool.and_eq_true,decide_eq_true_eq] at this;unfold I64;omega
theorem tpackR_inj{t u:Tm}(ht:t.err=0)(hu:u.err=0)(h:Dr t=Dr u):t=u:=by
 have h1:=packN_inj (Tm.bnd ht).1 (Tm.bnd hu).1 rfl h;have h2:=h1.1;simp only [Tm.nums,List.cons.injEq,and_true] at h2;obtain⟨a,b,c,d,e,f,g⟩:=h2;have h3:=tnB_inj (Tm.bnd ht).2 (Tm.bnd hu).2 yy0 h1.2;obtain⟨_,_,_,_,_,_,_⟩:=t;obtain⟨_,_,_,_,_,_,_⟩:=u;simp only at a b c d e f g h3;rw [a,b,c,d,e,f,h3]
theorem plainTr1_any(a0 b0:Int)(a1 b1:Bool)(w:World):Calls Tryz.prog 138 #[.agg #[.int .i64 a0,.bool a1],.agg #[.int .i64 b0,.bool b1]] w λe w'=>e= .returned (.bool (decide ((⟨a0,a1⟩:Tn)=⟨b0,b1⟩)))/\Keeps (λ_=>False) w w':=by
 by_cases h0:a0=b0
 ·subst h0
  cases a1<;>cases b1
  all_goals
   go_enter Tryz.func138,Tryz.ntmps138;go_wp2;go_ret;exact⟨by simp,(Keeps.alloc _ _).trans (Keeps.alloc _ _)⟩
 ·have hb:(a0==b0)=false:=beq_eq_false_iff_ne.2 h0;go_enter Tryz.func138,Tryz.ntmps138;go_wp2;go_ret;exact⟨by simp [h0],(Keeps.alloc _ _).trans (Keeps.alloc _ _)⟩
theorem take_step{α:Type}{L M:List α}{k:Nat}{x y:α}(h:L.take k=M.take k)(hx:L[k]?=some x)(hy:M[k]?=some y)(e:x=y):L.take (k+1)=M.take (k+1):=by
 rw [List.take_add_one,List.take_add_one,h,hx,hy,e]
theorem sameTr_any(L M:List Tn)(v1 v2:Value)(w:World)(h1:Reads w 2 v1 L.length (L.flatMap Tn.cells))(h2:Reads w 2 v2 M.length (M.flatMap Tn.cells))(hl:L.length<=1000000000000):
  Calls Tryz.prog 137 #[v1,v2,.func (.func 138) #[] #[]] w λe w'=>e= .returned (.bool (decide (L=M)))/\Keeps (λ_=>False) w w':=by
 have g1:=h1;have g2:=h2;obtain⟨ad1,c1,rfl,_,_⟩:=g1;obtain⟨ad2,c2,rfl,_,_⟩:=g2;by_cases hn:L.length=M.length
 ·obtain⟨n,hL⟩:∃n,L.length=n:=⟨_,rfl⟩;have hM:M.length=n:=by rw [<-hn];exact hL
  rw [hL] at h1 hl⊢;rw [hM] at h2⊢;obtain⟨H1,H2,Hn,HL,HM⟩:=hid5 h1 h2 hn hL hM;clear hM hL hn h2 h1;go_enter Tryz.func137,Tryz.ntmps137;go_wp2
  go_loopw [7] (λi wr=>∃k:Nat,k<=n/\i= .int .i64 k/\Keeps (λ_=>False) w wr/\L.take k=M.take k) (λi _=>n-(intOf i).toNat)
  case atStart=>exact⟨0,Nat.zero_le _,rfl,Keeps.refl _ _,rfl⟩
  case round=>
   obtain⟨k,hk,rfl,hkp,htk⟩:=hrel;obtain⟨Hkp,Htk⟩:=hid2 hkp htk;clear htk hkp;by_cases hlt:k<n
   ·obtain⟨⟨x0,x1⟩,hx⟩:=Ar (L:=L) (k:=k) (by rw [HL.out];exact hlt);obtain⟨⟨y0,y1⟩,hy⟩:=Ar (L:=M) (k:=k) (by rw [HM.out];exact hlt);obtain⟨g,o,c,he,hc⟩:=(H1.out.keeps Hkp.out (by simp)).elem Tn.Aj hx yy1;obtain⟨g',o',c',he',hc'⟩:=(H2.out.keeps Hkp.out (by simp)).elem Tn.Aj hy yy1;simp only [Value.slice.injEq,true_and] at he he';obtain⟨rfl,rfl⟩:=he;obtain⟨rfl,rfl⟩:=he';have e0:wr.cell? ⟨g,o+k*2,none⟩=some (.int .i64 x0):=hc 0 yy1;have e1:wr.cell? ⟨g,o+k*2+1,none⟩=some (.bool x1):=hc 1 yy1;have d0:wr.cell? ⟨g',o'+k*2,none⟩=some (.int .i64 y0):=hc' 0 yy1;have d1:wr.cell? ⟨g',o'+k*2+1,none⟩=some (.bool y1):=hc' 1 yy1;have hcl:=plainTr1_any x0 y0 x1 y1;clear hc hc';by_cases hxy:(⟨x0,x1⟩:Tn)=⟨y0,y1⟩
    ·rw [decide_eq_true hxy] at hcl;have hst:=take_step Htk.out hx hy hxy;clear hxy;obtain⟨Hx,Hy,Hcl,Hst⟩:=hid4 hx hy hcl hst;clear hst hcl hy hx;go_wp2
     go_still_tail 9,yy3
     go_wp2_with (go_at_call 138;(with_reducible refine(Hcl.out _).mono ?_);rintro e w' ⟨rfl,hk2⟩;have Hk2:=Lib.hid hk2;clear hk2)
     go_roundw
     case rel=>exact⟨k+1,by omega,by go_num,Hkp.out.trans ((Keeps.drew _).trans (Hk2.out.mono (by simp))),Hst.out⟩
     case measure=>simp [intOf];omega
    ·rw [decide_eq_false hxy] at hcl;have hne:¬L=M:=λe=>hxy (by rw [e,hy] at hx;exact(Option.some.inj hx).symm);clear hxy;obtain⟨Hx,Hy,Hcl,Hne⟩:=hid4 hx hy hcl hne;clear hne hcl hy hx;go_wp2
     go_still_tail 9,yy3
     go_wp2_with (go_at_call 138;(with_reducible refine(Hcl.out _).mono ?_);rintro e w' ⟨rfl,hk2⟩;have Hk2:=Lib.hid hk2;clear hk2)
     go_ret;exact⟨by rw [decide_eq_false Hne.out];rfl,(Hkp.out.trans (Keeps.drew _)).trans (Hk2.out.mono (by simp))⟩
   ·obtain rfl:k=n:=by omega
    have heq:L=M:=by
     have:=Htk.out
     rwa [List.take_of_length_le (by rw [HL.out];exact Nat.le_refl _),List.take_of_length_le (by rw [HM.out];exact Nat.le_refl _)] at this
    go_wp2;go_ret;exact⟨by rw [decide_eq_true heq];rfl,Hkp.out⟩
 ·have hne:¬L=M:=λe=>hn (by rw [e]);have hnI:(((L.length:Nat):Int) !=((M.length:Nat):Int))=true:=by simp;omega
  obtain⟨n,hL⟩:∃n,L.length=n:=⟨_,rfl⟩;obtain⟨m,hM⟩:∃n,M.length=n:=⟨_,rfl⟩;rw [decide_eq_false hne];rw [hL] at hnI⊢;rw [hM] at hnI⊢;obtain⟨H1,H2,Hn,HL,HM,Hne⟩:=hid6 h1 h2 hn hL hM hne;clear hne hM hL hn h2 h1;go_enter Tryz.func137,Tryz.ntmps137;go_wp2;go_ret;exact⟨rfl,Keeps.refl _ _⟩
theorem plainTr_any(L M:List Tn)(v1 v2:Value)(w:World)(h1:Reads w 2 v1 L.length (L.flatMap Tn.cells))(h2:Reads w 2 v2 M.length (M.flatMap Tn.cells))(hl:L.length<=1000000000000):
  Calls Tryz.prog 81 #[v1,v2] w λe w'=>e= .returned (.bool (decide (L=M)))/\Keeps (λ_=>False) w w':=by
 obtain⟨H1,H2⟩:=hid2 h1 h2;clear h2 h1;go_enter Tryz.func81,Tryz.ntmps81
 go_wp2_with (go_at_call 137;(with_reducible refine(sameTr_any L M _ _ _ H1.out H2.out hl).mono ?_);rintro e w' ⟨rfl,hk2⟩;have Hk2:=Lib.hid hk2;clear hk2)
 go_ret;exact⟨rfl,Hk2.out⟩
def TmEq(t u:Tm)(w:World)(e:Ending)(w':World):Prop:=∃r,e= .returned (.bool r)/\(r=true↔t=u)/\Keeps (λ_=>False) w w'
theorem sameTerms_any(t u:Tm)(v1 v2:Value)(w:World)(h1:Reads w 2 v1 t.trs.length (t.trs.flatMap Tn.cells))(h2:Reads w 2 v2 u.trs.length (u.trs.flatMap Tn.cells))(hl:t.trs.length<=1000000000000):
  Calls Tryz.prog 36 #[t.val v1,u.val v2] w (TmEq t u w):=by
 have hp:=λW (hW:Keeps (λ_=>False) w W)=>plainTr_any t.trs u.trs v1 v2 W (h1.keeps hW (λ_ _ h=>h)) (h2.keeps hW (λ_ _ h=>h)) hl;have hk2:∀a b:Obj,Keeps (λ_=>False) w ((w.alloc a).alloc b):=λa b=>(Keeps.alloc _ _).nt (Keeps.alloc _ _);have hbs:∀(T U:Array Value) (w1:World),Keeps (λ_=>False) ((w.alloc (.cells T 44)).alloc (.cells U 44)) w1->w1.heap[w.heap.size]?=some (.cells T 44 (0,0))/\w1.heap[w.heap.size+1]?=some (.cells U 44 (0,0)):=λT U w1 hk=>⟨Ad (Ad (heap_alloc_new w _) (Keeps.alloc (S:=λ_=>False) _ _) (by simp)) hk (by simp),Ad (by have:=heap_alloc_new (w.alloc (.cells T 44)) (.cells U 44);simpa using this) hk (by simp)⟩;have hq:∀(r:Bool) w',(r=true↔t=u)->Keeps (λ_=>False) w w'->TmEq t u w (.returned (.bool r)) w':=λr w' h h'=>⟨r,rfl,h,h'⟩;obtain⟨Q,hQ⟩:∃Q,TmEq t u w=Q:=⟨_,rfl⟩;rw [hQ] at hq⊢;clear hQ;obtain⟨l0,c0,d0,m0,q0,s0,L⟩:=t;obtain⟨l1,c1,d1,m1,q1,s1,M⟩:=u;simp only [Tm.val,Tm.mk.injEq] at hp hq⊢;obtain⟨Z,hZ⟩:∃Z:Bool,decide (L=M)=Z:=⟨_,rfl⟩;rw [hZ] at hp;have hZ':Z=true↔L=M:=by rw [<-hZ];simp
 clear hZ;by_cases e0:l0=l1
 ·subst e0;by_cases e1:c0=c1
  ·subst e1;by_cases e2:d0=d1
   ·subst e2;by_cases e3:m0=m1
    ·subst e3;by_cases e4:q0=q1
     ·subst e4;by_cases e5:s0=s1
      ·subst e5;simp only [true_and] at hq
       cases Z
       all_goals
        have hf:=λw'=>hq _ w' hZ';clear hq hZ';obtain⟨H1,H2,Hp,Hf,Hk2,Hbs⟩:=hid6 h1 h2 hp hf hk2 hbs;clear hbs hk2 hf hp h2 h1;go_enter Tryz.func36,Tryz.ntmps36
        go_wp2_with (go_at_call 81;(with_reducible refine(Hp.out _ (Hk2.out _ _)).mono ?_);rintro e w1 ⟨rfl,hk1⟩;obtain⟨hA,hB⟩:=Hbs.out _ _ _ hk1;have x2:=Aa hA 2;have x3:=Aa hA 3;have x4:=Aa hA 4;have x5:=Aa hA 5;have x6:=Aa hA 6;have lA:=lt_of_block hA;have y2:=Aa hB 2;have y3:=Aa hB 3;have y4:=Aa hB 4;have y5:=Aa hB 5;have y6:=Aa hB 6;have lB:=lt_of_block hB;clear hA hB;have Hk1:=Lib.hid ((Hk2.out _ _).nt hk1);clear hk1)
        first|exact Hf.out _ Hk1.out|exact Hf.out _ (Hk2.out _ _)
      ·have b5:(s0==s1)=false:=beq_eq_false_iff_ne.2 e5;have hf:=λw'=>hq false w' (by simp [e5]);clear hq e5;exact yy6
     ·have b4:(q0==q1)=false:=beq_eq_false_iff_ne.2 e4;have hf:=λw'=>hq false w' (by simp [e4]);clear hq e4;exact yy6
    ·have b3:(m0==m1)=false:=beq_eq_false_iff_ne.2 e3;have hf:=λw'=>hq false w' (by simp [e3]);clear hq e3;exact yy6
   ·have b2:(d0==d1)=false:=beq_eq_false_iff_ne.2 e2;have hf:=λw'=>hq false w' (by simp [e2]);clear hq e2;exact yy6
  ·have b1:(c0==c1)=false:=beq_eq_false_iff_ne.2 e1;have hf:=λw'=>hq false w' (by simp [e1]);clear hq e1;exact yy6
 ·have b0:(l0==l1)=false:=beq_eq_false_iff_ne.2 e0;have hf:=λw'=>hq false w' (by simp [e0]);clear hq hZ' e0;obtain⟨H1,H2,Hp,Hf,Hk2,Hbs⟩:=hid6 h1 h2 hp hf hk2 hbs;clear hbs hk2 hf hp h2 h1;go_enter Tryz.func36,Tryz.ntmps36
  go_wp2_with (go_at_call 81;(with_reducible refine(Hp.out _ (Hk2.out _ _)).mono ?_);rintro e w1 ⟨rfl,hk1⟩;obtain⟨hA,hB⟩:=Hbs.out _ _ _ hk1;have x2:=Aa hA 2;have x3:=Aa hA 3;have x4:=Aa hA 4;have x5:=Aa hA 5;have x6:=Aa hA 6;have lA:=lt_of_block hA;have y2:=Aa hB 2;have y3:=Aa hB 3;have y4:=Aa hB 4;have y5:=Aa hB 5;have y6:=Aa hB 6;have lB:=lt_of_block hB;clear hA hB;have Hk1:=Lib.hid ((Hk2.out _ _).nt hk1);clear hk1)
  first|exact Hf.out _ Hk1.out|exact Hf.out _ (Hk2.out _ _)
theorem size_tTerms:(Tryz.prog.info? 44).map (·.size)=some 7:=by kernel_rfl
def Tm.arr(t:Tm)(v:Value):Array Value:= #[.int .i64 t.limit,v,.int .i64 t.cyc,.int .i64 t.due,.int .i64 t.minFixed,.int .i64 t.minPart,.int .i64 t.start]
theorem playT_rep(t:Tm):Dl (playT t) [] (playT t).start=0:=by
 obtain⟨h1,h2,h3⟩:=playT_ok t;exact repErr_play h1 (by simp) (by simp) (Int.le_refl _) yy0 yy0
def so1(A B:Nat)(T U:Array Value)(W:World):Prop:=W.heap[A]?=some (.cells T 44 (0,0))/\W.heap[B]?=some (.cells U 44 (0,0))
theorem so1.keep{A B:Nat}{T U:Array Value}{W W':World}(h:so1 A B T U W)(hk:Keeps (λ_=>False) W W'):so1 A B T U W':=⟨Ad h.1 hk (by simp),Ad h.2 hk (by simp)⟩
theorem so1.pf{A B:Nat}{T U:Array Value}{W W':World}{P:Nat}{v:Value}{p:Pd}(h:so1 A B T U W)(hp:PadAt W P v p)(hk:Keeps (PFoot P v) W W'):so1 A B T U W':=by
 have hb:∀(i:Nat) (C:Array Value),W.heap[i]?=some (.cells C 44 (0,0))->W'.heap[i]?=some (.cells C 44 (0,0)):=λi C hb=>Ad hb hk (λe=>by
  rcases e with e|e
  ·rw [e,hp.blk] at hb
   cases hb
  ·exact Ai hp.row hb (by decide) e)
 exact⟨hb _ _ h.1,hb _ _ h.2⟩
theorem size_tPad:(Tryz.prog.info? 106).map (·.size)=some 4:=by kernel_rfl
theorem neq_same(a:Addr)(w:World):(binOp .neq 36 (.pointer (some a)) (.pointer (some a))).run Tryz.prog w= .ok (.bool false) w:=by
 obtain⟨j,hj⟩:∃j,Tryz.prog.info? 106=some j:=by
  rcases h:Tryz.prog.info? 106 with _|j
  ·have:=size_tPad;rw [h] at this
   cases this
  ·exact⟨j,rfl⟩
 have h:∀d:Nat,(Op.equalIn (d+1) 36 (.pointer (some a)) (.pointer (some a))).run Tryz.prog w= .ok true w:=λd=>by
  simp [Op.equalIn,run_underlying Tryz.underlying36,sizeOf,typeInfo,hj,run_sameAddr_same]
 simp only [binOp];simp [Op.equal,Op.maxDepth,h 9999]
theorem tm_far{w w1:World}{adt av:Option Addr}{n N ct cv:Nat}{X:List Tn}(h:Value.slice av N cv= .slice adt n ct\/∀g,(Value.slice av N cv).ownBlock=some g->w1.heap.size<=g)(hN:1<=N)(htr:Reads w 2 (.slice adt n ct) n (X.flatMap Tn.cells))(hX:X.length=n):
  ∀g,(Value.slice av N cv).ownBlock=some g->g<w.heap.size\/w1.heap.size<=g:=by
 intro g hg;rcases h with h|h
 ·left
  simp only [Value.slice.injEq] at h;obtain⟨rfl,rfl,rfl⟩:=h
  obtain⟨g',e1,e2⟩:=htr.lt (λe=>by
   have h2:=congrArg List.length e;rw [Rn X,hX] at h2;simp at h2
   omega)
  rw [e1] at hg;injection hg with hg;omega
 ·exact .inr (h g hg)
theorem reads_pos{w:World}{v:Value}{n:Nat}{X:List Tn}(h:Reads w 2 v n (X.flatMap Tn.cells))(hX:X.length=n)(hn:1<=n):∀g,v.ownBlock=some g->g<w.heap.size:=by
 intro g hg
 obtain⟨g',e1,e2⟩:=h.lt (λe=>by
  have h2:=congrArg List.length e;rw [Rn X,hX] at h2;simp at h2
  omega)
 rw [e1] at hg;injection hg with hg;omega
end Go.Proofs.YtgbgmadkmabeeaaGreat
