/- Part 1 of the proof of ServicerWrites: walks and plain laws. -/
import Derived.Test.YtgbgmadkmabeeaaGreatE35
set_option maxRecDepth 100000
set_option maxHeartbeats 3200000
namespace Go.Proofs.YtgbgmadkmabeeaaGreat
open Go.RowKit Go.IntWalk
theorem Gx(m P u n:Nat)(v:Value)(p:Pd)(w:World)(hb:w.heap[m]?=some (.cells #[(.pointer (some ⟨P,0,none⟩))] 36 (0,0)))(h:PadAt w P v p)(hp:PadI p u n)(hu:u<=n):Calls Tryz.prog 37 #[(.pointer (some ⟨m,0,none⟩))] w λe w'=>e= .returned (.int .i64 u)/\Keeps (λ_=>False) w w':=by
 have hn:=h.n;rw [hp.n] at hn;have hlen:=λW (hW:Keeps (λ_=>False) w W)=>Nw P v p W (h.keeps hW (by simp));rw [hp.n] at hlen;obtain⟨Hb,H,Hp,Hlen⟩:=hid4 hb h hp hlen;clear hlen hp h hb;go_enter Tryz.func37,Tryz.ntmps37;go_wp2_with fail
 go_loopw [2,3] (λa b wr=>∃i k:Nat,i<=n/\k=min i u/\a= .int .i64 (k:Nat)/\b= .int .i64 (i:Nat)/\Keeps (λ_=>False) w wr) (λ_ b _=>n-(intOf b).toNat)
 case atStart=>exact⟨0,0,Nat.zero_le _,by omega,rfl,rfl,Keeps.refl _ _⟩
 case round=>
  obtain⟨i,k,hi,hk,rfl,rfl,hkr⟩:=hrel;have hbr:=Ad Hb.out hkr (by simp);have c0:=Aa hbr 0;have cl:=lt_of_block hbr;have hkn:k<=n:=j8;by_cases hin:i<n
  ·have hiI:(i:Int)<(n:Int):=j8;obtain⟨x,hx⟩:=Ar (show i<p.l.length by rw [Hp.out.n];exact hin);have hlf:=λW (hW:Keeps (λ_=>False) wr W)=>Tz P v p i x W ((H.out.keeps hkr (by simp)).keeps hW (by simp)) hx;have hus:=Hp.out.us i x hx;have hl2:=Hlen.out wr hkr;by_cases hiu:i<u
   ·have hx2:=hus.1 hiu;obtain rfl:k=i:=by omega
    rw [if_neg (by rw [hx2];decide),decide_eq_false (by rw [hx2];decide)] at hlf;have hk1:k+1=min (k+1) u:=j8;clear hk;obtain⟨Hkr,Hbr,Hx,Hlf,Hus,Hl2,Hx2,Hk1⟩:=hid8 hkr hbr hx hlf hus hl2 hx2 hk1;clear hk1 hx2 hl2 hus hlf hx hbr hkr
    go_wp2_with (first|(go_at_call 26;(with_reducible refine Hl2.out.mono ?_);rintro e w5 ⟨rfl,hw5⟩;subst w5)|(go_at_call 38;(with_reducible refine(Hlf.out _ (Keeps.refl _ _)).mono ?_);rintro e w6 ⟨rfl,hk6⟩;have Hk6:=Lib.hid hk6;clear hk6)|(refine wpList_store_row rfl 75 (.tmp 4) (.tmp 16) rfl w6.heap.size (b48 x.b).toArray rfl rfl 75 (b48 (List.replicate 48 0)).toArray (heap_alloc_new w6 _) Be rfl (Dx _) ?_))
    go_roundw
    case rel=>exact⟨k+1,k+1,by omega,Hk1.out,by go_num,by go_num,(Keeps.nt (Keeps.nt Hkr.out Hk6.out) (Keeps.alloc _ _)).trans ((Keeps.setRow _ _ _).mono λi _ e=> .inr j19)⟩
    case measure=>simp [intOf];omega
   ·have hx2:=hus.2 j6;rw [if_pos hx2,decide_eq_true hx2] at hlf;have hk1:k=min (i+1) u:=j8;clear hk;obtain⟨Hkr,Hbr,Hx,Hlf,Hus,Hl2,Hx2,Hk1⟩:=hid8 hkr hbr hx hlf hus hl2 hx2 hk1;clear hk1 hx2 hl2 hus hlf hx hbr hkr
    go_wp2_with (first|(go_at_call 26;(with_reducible refine Hl2.out.mono ?_);rintro e w5 ⟨rfl,hw5⟩;subst w5)|(go_at_call 38;(with_reducible refine(Hlf.out _ (Keeps.refl _ _)).mono ?_);rintro e w6 ⟨rfl,hk6⟩;have Hk6:=Lib.hid hk6;clear hk6)|(refine wpList_store_row rfl 75 (.tmp 4) (.tmp 16) rfl w6.heap.size (b48 []).toArray rfl rfl 75 (b48 (List.replicate 48 0)).toArray (heap_alloc_new w6 _) Be rfl (Dx _) ?_))
    go_roundw
    case rel=>exact⟨i+1,k,by omega,Hk1.out,rfl,by go_num,(Keeps.nt (Keeps.nt Hkr.out Hk6.out) (Keeps.alloc _ _)).trans ((Keeps.setRow _ _ _).mono λi _ e=> .inr j19)⟩
    case measure=>simp [intOf];omega
  ·obtain rfl:i=n:=by omega
   obtain rfl:k=u:=by omega
   have hl2:=Hlen.out wr hkr;clear hk;obtain⟨Hkr,Hbr,Hl2⟩:=hid3 hkr hbr hl2;clear hl2 hbr hkr
   go_wp2_with (go_at_call 26;(with_reducible refine Hl2.out.mono ?_);rintro e w5 ⟨rfl,hw5⟩;subst w5)
   go_ret;exact⟨rfl,Hkr.out⟩
def wrS(m P:Nat)(w:World):Prop:=w.cell? ⟨m,0,none⟩=some (.pointer (some ⟨P,0,none⟩))/\m<w.heap.size
theorem wrS.keep{m P:Nat}{w w':World}{K:Nat->Prop}(h:wrS m P w)(hk:Keeps K w w')(hn:¬K m):wrS m P w':=⟨(hk.cell h.2 hn).trans h.1,Nat.lt_of_lt_of_le h.2 hk.size⟩
structure WrI(w W:World)(S P m al:Nat)(v:Value)(M i u:Nat)(O:List Cmd):Prop where
 lv:∃q p nr A,SvL w W q p 0 u nr A/\PadI p u 60/\q.S=S/\q.P=P/\nr<=1+i/\A.seq<=i
 hu:u<=2+i
 row:W.ownsRow 0 23 5 v M (O.flatMap Cmd.cells)
 box:W.heap[m]?=some (.cells #[(.pointer (some ⟨P,0,none⟩))] 36 (0,0))
theorem WrI.keep{w W W':World}{S P m al:Nat}{v:Value}{M i u:Nat}{O:List Cmd}(h:WrI w W S P m al v M i u O)(hk:Keeps (λ_=>False) W W'):WrI w W' S P m al v M i u O:=by
 obtain⟨⟨q,p,nr,A,h1,h2⟩,h3,h4,h5⟩:=h;exact⟨⟨q,p,nr,A,h1.keep hk,h2⟩,h3,hk.row h4 (by simp),Ad h5 hk (by simp)⟩
theorem Mw(w:World)(ad:Option Addr)(cap:Nat)(L:List Cmd)(hr:Reads w 5 (.slice ad L.length cap) L.length (L.flatMap Cmd.cells))(_:∀a∈L,a.wf)(hm:L.length<=maxLen):
  Calls Tryz.prog 8 #[.slice ad L.length cap] w λe w'=>e= .returned (.bool true)/\Below w.heap.size w w':=by
 obtain⟨N,hN⟩:∃N,L.length=N:=⟨_,rfl⟩;rw [hN] at hr hm⊢;have hNx:N<=9223372036854775807:=by unfold maxLen at hm;omega
 have hcm:=Jk L ad cap N 30 w hN hr hNx j7;rw [show((30:Nat):Int)=30 from rfl] at hcm;have hnew:=λW=>Ll 60 W j7 j7;rw [show(((60:Nat):Int))=60 from rfl] at hnew;have hE:Enters Tryz.prog 37:=enters_of Tryz.func37 j9 rfl;unfold Enters at hE;clear hm;obtain⟨Hr,HN,Hcm,Hnew⟩:=hid4 hr hN hcm hnew;clear hnew hcm hN hr;go_enter Tryz.func8,Tryz.ntmps8;go_wp2_with fail;refine Hcm.out.mono ?_;rintro e w1 ⟨v,O,rfl,hat,hol⟩;obtain⟨M,hM⟩:∃M,O.length=M:=⟨_,rfl⟩;have hrow:=hat.1;have hk1:=hat.2.1;rw [hM] at hrow hol;obtain⟨al,cl,rfl,_,_⟩:=Af hrow;clear hat;obtain⟨Hk1,Hrow,HM⟩:=hid3 hk1 hrow hM;clear hM hrow hk1;go_wp2_with fail;refine(Hnew.out w1).mono ?_;rintro e w2 ⟨g,rfl,hp2,hk2,hg⟩;obtain⟨P,hP⟩:∃P,P=w1.heap.size+1:=⟨_,rfl⟩;rw [<-hP] at hp2⊢;have hPw:w.heap.size<=P:=by have:=Hk1.out.size;omega
 have hgw:w.heap.size<=g:=by have:=Hk1.out.size;omega
 have hrow2:=hk2.row Hrow.out (by simp);have hkw2:=Hk1.out.nt hk2;clear hk2 hg;obtain⟨Hp2,Hkw2,Hrow2,HP⟩:=hid4 hp2 hkw2 hrow2 hP;clear hP hrow2 hkw2 hp2
 go_upto_region 3 with fail
 refine Kt λw3 hw3=> ?_;obtain⟨m,hm⟩:∃m,w2.heap.size=m:=⟨_,rfl⟩;have hb3:w3.heap[m]?=some (.cells #[(.pointer (some ⟨P,0,none⟩))] 36 (0,0)):=by rw [hw3,<-hm];exact heap_alloc_new w2 _
 have hk3:Keeps (λ_=>False) w2 w3:=by rw [hw3];exact Keeps.alloc _ _
 have hp3:=Hp2.out.keeps hk3 (by simp);have hrow3:=hk3.row Hrow2.out (by simp);have hkw3:=Hkw2.out.nt hk3;rw [hm];clear hw3 hm;obtain⟨Hb3,Hk3,Hp3,Hrow3,Hkw3⟩:=hid5 hb3 hk3 hp3 hrow3 hkw3;clear hkw3 hrow3 hp3 hk3 hb3;refine Ak (wrS m P) (.take 0 (.move 1 (.move 2 (.take 3 (.take 4 (.take 5 (.take 6 (.take 7 .done)))))))) j9 j9 ?_ ?_
 ·exact wrS.keep ⟨Aa Hb3.out 0,lt_of_block Hb3.out⟩ (Keeps.drew (S:=λ_=>False) _) (by simp)
 intro w4 hs4 hk4;refine je ?_;intro K hK
 go_at_call 21
 ((with_reducible refine(Kz w4).mono ?_);rintro e w5 ⟨gt,rfl,ht5,hk5,_⟩)
 dsimp only;have hs5:=hs4.keep hk5 (by simp);refine hK.out _ _ (by exact hs5) ?_;clear hK K;refine jh ?_;have hk35:=hk4.nt hk5;have hop:=open25 (w0:=w) (Hkw3.out.nt hk35) (Hp3.out.keeps hk35 (by simp)) hPw hgw j7 ht5;have hb5:=Ad Hb3.out hk35 (by simp);have hrow5:=hk35.row Hrow3.out (by simp);have hml:=lt_of_block Hb3.out;refine ja ?_;intro K hK
 go_at_call 20
 ((with_reducible refine(hop).mono ?_);rintro e w6 ⟨q,rfl,hqP,hL6,hk6⟩)
 dsimp only
 have hpf:∀i C t fz,w5.heap[i]?=some (.cells C t fz)->t≠106->t≠149->¬PFoot P (.slice (some ⟨g,0,none⟩) 60 60) i:=by
  rintro i C t fz hb h1 h2 (rfl|e)
  ·exact h1 (TyAt.eq ⟨_,_,hb⟩ ⟨_,_,(Hp3.out.keeps hk35 (by simp)).blk⟩)
  ·exact h2 (TyAt.eq ⟨_,_,hb⟩ (.row (Hp3.out.keeps hk35 (by simp)).row e))
 have hs6:=hs5.keep hk6 (hpf m _ _ _ hb5 j7 j7);refine hK.out _ _ (by exact hs6) ?_;clear hK K;refine jj ?_;have hb6:=Ad hb5 hk6 (hpf m _ _ _ hb5 j7 j7)
 have hrow6:=hk6.row hrow5 (λk hk e=>by
  obtain⟨C,fz,hy⟩:=TyAt.row hrow5 hk
  exact hpf k _ _ _ hy (by decide) (by decide) e)
 have hpi:PadI (inkP 0 (Dr t25) ⟨List.replicate 60 lf0,0,0,false⟩) 2 60:=by
  exact j4C
 have hI6:WrI w w6 q.S P m 0 (.slice al M cl) M 0 2 O:=⟨⟨q,_,1,_,hL6,hpi,rfl,hqP,by omega,by show(0:Int)<=_;decide⟩,by omega,hrow6,hb6⟩;obtain⟨S,hS⟩:∃S,q.S=S:=⟨_,rfl⟩;rw [hS] at hI6⊢;clear hs4 hs5 hs6 hk4 hk5 hk35 hop hb5 hrow5 hk6 hpf hb6 hrow6 hpi hL6 hqP ht5 hS;have HI6:=Lib.hid hI6;clear hI6;go_wp2_with fail;refine(Rx w6).mono ?_;rintro e w7 ⟨rfl,hk7⟩;have hI7:=HI6.out.keep hk7;have c0:=Aa hI7.box 0;have cl:=lt_of_block hI7.box;obtain⟨HI7,Hk7⟩:=hid2 hI7 hk7;clear hk7 hI7
 go_upto_region 7 with fail
 obtain⟨⟨q7,p7,nr7,A7,hL7,hpi7,hq7,hqP7,j1,j2⟩,j3,j4,hb7⟩:=HI7.out;obtain⟨RL7,hS7⟩:=hL7.is;have huf:=Gx m P 2 60 q7.v p7 w7 hb7 (by rw [<-hqP7];exact hS7.pad) hpi7 j7;clear hL7 hpi7 hq7 hqP7 hb7 hS7 j1 j2 j3 j4;have Huf:=Lib.hid huf;clear huf;go_wp2_with fail
 go_at_fn 37
 refine Huf.out.mono ?_;rintro e w8 ⟨rfl,hk8⟩;have hI8:=HI7.out.keep hk8;clear c0 cl;obtain⟨HI8,Hk8⟩:=hid2 hI8 hk8;clear hk8 hI8;go_wp2_with fail
 go_loopw [7,8] (λa b wr=>∃i u:Nat,i<=M/\a= .int .i64 (u:Nat)/\b= .int .i64 (i:Nat)/\WrI w wr S P m 0 (.slice al M cl) M i u O) (λ_ b _=>M-(intOf b).toNat)
 case atStart=>exact⟨0,2,Nat.zero_le _,rfl,rfl,HI8.out⟩
 case round=>
  obtain⟨i,u,hiM,rfl,rfl,hI⟩:=hrel;obtain⟨w9,hw9⟩:∃x,x=wr:=⟨_,rfl⟩;subst hw9;by_cases hlt:i<M
  ·have hltI:(i:Int)<(M:Int):=j8;obtain⟨⟨q,p,nr,A,hL,hpi,hqS,hqP,hnr,hsq⟩,hu,hrw,hbx⟩:=hI;obtain⟨⟨ki,da,tr,am,re⟩,hx⟩:=Ar (L:=O) (k:=i) j0H;obtain⟨gc,oc,c',he,hc⟩:=(Reads.Ay hrw).elem Cmd.Aj hx j7;simp only [Value.slice.injEq,true_and] at he;obtain⟨rfl,rfl⟩:=he;have hty:TyAt w9 gc 23:= .row hrw rfl
   have hcell:∀W S',Keeps S' w9 W->¬S' gc->W.cell? ⟨gc,oc+i*5,none⟩=some (.int .i64 ki)/\W.cell? ⟨gc,oc+i*5+1,none⟩=some (.int .i64 da)/\W.cell? ⟨gc,oc+i*5+2,none⟩=some (.int .i64 tr)/\W.cell? ⟨gc,oc+i*5+3,none⟩=some (.int .i64 am)/\W.cell? ⟨gc,oc+i*5+4,none⟩=some (.int .i64 re)/\gc<W.heap.size:=by
    intro W S' hk hn;have h0:=hc 0 j7;have h1:=hc 1 j7;have h2:=hc 2 j7;have h3:=hc 3 j7;have h4:=hc 4 j7;exact⟨(hk.cell (Ag h0) hn).trans h0,(hk.cell (Ag h1) hn).trans h1,(hk.cell (Ag h2) hn).trans h2,(hk.cell (Ag h3) hn).trans h3,(hk.cell (Ag h4) hn).trans h4,Nat.lt_of_lt_of_le (Ag h0) hk.size⟩
   obtain⟨x0,x1,x2,x3,x4,xl⟩:=hcell w9 _ (Keeps.refl (λ_=>False) _) (by simp);have hdo:=svL_do hL hpi ⟨ki,da,tr,am,re⟩ j6 j6 j6;unfold SvStep at hdo;have hseq:=(A.seq_act ⟨ki,da,tr,am,re⟩).2;obtain⟨RL,hS9⟩:=hL.is;have hng:¬SvF q gc:=λe=>by have:=hS9.ty e hty;exact absurd this j7
   have hkb:keptB A ⟨ki,da,tr,am,re⟩=(chB ⟨ki,da,tr,am,re⟩&&decide (A.dz ⟨ki,da,tr,am,re⟩=0)):=rfl;rw [hqS] at hdo;simp only at hdo;obtain⟨z,hz⟩:∃z,A.dz ⟨ki,da,tr,am,re⟩=z:=⟨_,rfl⟩;obtain⟨kb,hkbe⟩:∃b,keptB A ⟨ki,da,tr,am,re⟩=b:=⟨_,rfl⟩;obtain⟨cb,hcb⟩:∃b,chB ⟨ki,da,tr,am,re⟩=b:=⟨_,rfl⟩;obtain⟨A',hA'⟩:∃A',A.act ⟨ki,da,tr,am,re⟩=A':=⟨_,rfl⟩;have hch:∀W,Calls Tryz.prog 25 #[.agg #[.int .i64 ki,.int .i64 da,.int .i64 tr,.int .i64 am,.int .i64 re]] W (λe w'=>e= .returned (.bool cb)/\Keeps (λ_=>False) W w'):=λW=>by have:=Tu ⟨ki,da,tr,am,re⟩ W;simp only at this;rw [hcb] at this;exact this
   rw [hz,hkbe,hA'] at hdo;rw [hkbe,hcb,hz] at hkb;rw [hA'] at hseq;clear hc hS9;obtain⟨HL,Hpi,HqS,HqP,Hrw,Hbx,Hx,Hty,Hcell⟩:=hid9 hL hpi hqS hqP hrw hbx hx hty hcell;clear hcell hty hx hbx hrw hqP hqS hpi hL;obtain⟨Hdo,Hseq,Hng,Hz,Hkbe,Hcb,HA',Hch,Hkb⟩:=hid9 hdo hseq hng hz hkbe hcb hA' hch hkb;clear hkb hch hA' hcb hkbe hz hng hseq hdo;obtain⟨Hnr,Hsq,Hu⟩:=hid3 hnr hsq hu;clear hu hsq hnr;go_wp2_with fail;refine Hdo.out.mono ?_;rintro e w10 ⟨v,rfl,hans,q',p',hL',hpi',hqS',hqP',hk10⟩;obtain⟨rr,hrr⟩:∃z,A.dr ⟨ki,da,tr,am,re⟩=z:=⟨_,rfl⟩;obtain⟨ry,hry⟩:∃z,A.dc ⟨ki,da,tr,am,re⟩=z:=⟨_,rfl⟩;rw [hrr,hry] at hans;obtain⟨s0,s1,s3,s4,s7,p0,p1,p2,p3,p5,p6,p7,k1,m1,d1,k2,m2,d2,k3,m3,d3,k4,m4,d4,gr,hv⟩:=hans.letters;subst hv;have hput:=setRow_heap (w10.alloc (.cells #[.int .i64 0,.int .i64 0,.int .i64 0,.int .i64 0,.int .i64 0,.slice none 0 0,.int .i64 0,.int .i64 0,.slice none 0 0,.slice none 0 0,.int .i64 0,.int .i64 0,.int .i64 0,.int .i64 0,.int .i64 0,.slice none 0 0,.int .i64 0,.int .i64 0,.int .i64 0,.bool false] 62)) w10.heap.size #[.int .i64 0,.int .i64 0,.int .i64 0,.int .i64 0,.int .i64 0,.slice none 0 0,.int .i64 0,.int .i64 0,.slice none 0 0,.slice none 0 0,.int .i64 0,.int .i64 0,.int .i64 0,.int .i64 0,.int .i64 0,.slice none 0 0,.int .i64 0,.int .i64 0,.int .i64 0,.bool false] #[.int .i64 z,.int .i64 rr,.int .i64 ry,.int .i64 s0,.int .i64 s1,.slice k1 m1 d1,.int .i64 s3,.int .i64 s4,.slice k2 m2 d2,.slice k3 m3 d3,.int .i64 s7,.int .i64 p0,.int .i64 p1,.int .i64 p2,.int .i64 p3,.slice k4 m4 d4,.int .i64 p5,.int .i64 p6,.int .i64 p7,.bool gr] 62 _ (heap_alloc_new w10 _);have hrw10:=HL.out.row hk10 Hrw.out j7;have hbx10:=HL.out.box hk10 Hbx.out j7;obtain⟨u',hu'⟩:∃z,(if kb=true then u+1 else u)=z:=⟨_,rfl⟩;obtain⟨nr',hnr'⟩:∃z,(if kb=true then nr+1 else nr)=z:=⟨_,rfl⟩;have hnr1:nr'<=1+(i+1):=by rw [<-hnr'];have:=Hnr.out;split<;>omega
   rw [hu',hnr'] at hL';rw [hu'] at hpi';clear hans hrr hry x0 x1 x2 x3 x4 xl hnr';obtain⟨Hput,Hrw10,Hbx10,HL',Hpi',HqS',HqP',Hk10,Hu'⟩:=hid9 hput hrw10 hbx10 hL' hpi' hqS' hqP' hk10 hu';clear hu' hk10 hqP' hqS' hpi' hL' hbx10 hrw10 hput;have Hnr1:=Lib.hid hnr1;clear hnr1
   go_upto_region 14 with(refine wpList_store_row rfl 62 (.tmp 9) (.tmp 49) rfl w10.heap.size #[.int .i64 z,.int .i64 rr,.int .i64 ry,.int .i64 s0,.int .i64 s1,.slice k1 m1 d1,.int .i64 s3,.int .i64 s4,.slice k2 m2 d2,.slice k3 m3 d3,.int .i64 s7,.int .i64 p0,.int .i64 p1,.int .i64 p2,.int .i64 p3,.slice k4 m4 d4,.int .i64 p5,.int .i64 p6,.int .i64 p7,.bool gr] rfl rfl 62 _ (heap_alloc_new w10 _) Aq rfl (Ud z rr ry s0 s1 s3 s4 s7 p0 p1 p2 p3 p5 p6 p7 k1 k2 k3 k4 m1 d1 m2 d2 m3 d3 m4 d4 gr) ?_)
   refine Kt λw11 hw11=> ?_;rw [<-hw11] at Hput;have hk11:Keeps (λ_=>False) w10 w11:=by rw [hw11];exact(Keeps.alloc w10 _).trans ((Ca _ _ _).mono λi _ e=> .inr (by have e':i=w10.heap.size:=e;omega))
   obtain⟨mb,hmb⟩:∃b,w10.heap.size=b:=⟨_,rfl⟩;rw [hmb] at Hput⊢;have b0:=Aa Hput.out 0;have bl:=lt_of_block Hput.out;clear hw11 hmb;have Hk11:=Lib.hid hk11;clear hk11;by_cases hz0:z=0
   ·subst hz0;obtain⟨x0,x1,x2,x3,x4,xl⟩:=Hcell.out w11 _ (Hk10.out.trans (Hk11.out.mono (by simp))) Hng.out;go_wp2_with fail;refine(Hch.out w11).mono ?_;rintro e w12 ⟨rfl,hk12⟩;have hk1012:=Hk11.out.nt hk12;clear x0 x1 x2 x3 x4 xl b0 bl hk12;rcases cb with _|_
    ·have hkf:kb=false:=by rw [Hkb.out];rfl
     have hue:u'=u:=by rw [<-Hu'.out,hkf];rfl
     subst hue;refine j22 ?_;intro hL12 hb12 hr12 RL2 hS12;have hpa:PadAt w12 P q'.v p':=by have:=hS12.pad;rw [HqP'.out,HqP.out] at this;exact this
     have huf2:=Gx m P u' 60 q'.v p' w12 hb12 hpa Hpi'.out (by have:=Hu.out;omega);exact j4D
    ·have hkf:kb=true:=by rw [Hkb.out];rfl
     have hue:u'=u+1:=by rw [<-Hu'.out,hkf];rfl
     subst hue;clear hkf
     go_upto_region 16 with fail
     rw [show wrap64 ((u:Int)+1)=(u:Int)+1 from wrap64_in _ ⟨by omega,by have:=Hu.out;omega⟩];obtain⟨uI,huI⟩:∃z:Int,(u:Int)+1=z:=⟨_,rfl⟩;rw [huI];have HuI:=Lib.hid huI;clear huI;refine j22 ?_;intro hL12 hb12 hr12 RL2 hS12;have hpa:PadAt w12 P q'.v p':=by have:=hS12.pad;rw [HqP'.out,HqP.out] at this;exact this
     have huf2:=Gx m P (u+1) 60 q'.v p' w12 hb12 hpa Hpi'.out (by have:=Hu.out;omega);rw [show(((u+1):Nat):Int)=uI from(by have:=HuI.out;omega)] at huf2;clear hS12;obtain⟨HL12,Hb12,Hr12,Hpa,Huf2,Hk1012⟩:=hid6 hL12 hb12 hr12 hpa huf2 hk1012;clear hk1012 huf2 hpa hr12 hb12 hL12;go_wp2_with fail
     go_at_fn 37
     refine Huf2.out.mono ?_;rintro e wy ⟨rfl,hky⟩;have hby:=Ad Hb12.out hky (by simp);have c0:=Aa hby 0;have cl:=lt_of_block hby
     have hwet:=Nv P q'.v p' wy (Hpa.out.keeps hky (by simp));rw [Hpi'.out.wets] at hwet;obtain⟨Hky,Hby,Hwet⟩:=hid3 hky hby hwet;clear hwet hby hky;go_wp2_with fail;refine Hwet.out.mono ?_;rintro e wz ⟨rfl,hkz⟩;clear c0 cl;have hkyz:=Hky.out.nt hkz;clear hkz;have Hkyz:=Lib.hid hkyz;clear hkyz;go_wp2;go_roundw
     case rel=>exact⟨i+1,(u+1),by omega,(by rw [<-HuI.out];rfl),by go_num,⟨⟨q',p',nr',A',HL12.out.keep Hkyz.out,Hpi'.out,HqS'.out,by rw [HqP'.out];exact HqP.out,Hnr1.out,by have:=Hseq.out;have:=Hsq.out;omega⟩,by have:=Hu.out;omega,Hkyz.out.row Hr12.out (by simp),Ad Hb12.out Hkyz.out (by simp)⟩⟩
     case measure=>simp [intOf];omega
   ·have hzb:(z==0)=false:=beq_eq_false_iff_ne.2 hz0;have hkf:kb=false:=by rw [Hkb.out,decide_eq_false hz0,Bool.and_false]
    have hue:u'=u:=by rw [<-Hu'.out,hkf];rfl
    subst hue;have hk1012:=Hk11.out;have Hz0:=Lib.hid hz0;clear hz0;refine j22 ?_;intro hL12 hb12 hr12 RL2 hS12;have hpa:PadAt w11 P q'.v p':=by have:=hS12.pad;rw [HqP'.out,HqP.out] at this;exact this
    have huf2:=Gx m P u' 60 q'.v p' w11 hb12 hpa Hpi'.out (by have:=Hu.out;omega);exact j4D
  ·have hge:¬((i:Int)<(M:Int)):=j8;obtain⟨⟨q,p,nr,A,hL,_⟩,_⟩:=hI;exact j4E
end Go.Proofs.YtgbgmadkmabeeaaGreat
