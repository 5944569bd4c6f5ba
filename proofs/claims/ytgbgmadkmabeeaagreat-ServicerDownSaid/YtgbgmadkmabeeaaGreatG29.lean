/- Part 29 of what the laws of this seat share: walks of functions, and plain laws. -/
import Derived.Test.YtgbgmadkmabeeaaGreatG27
set_option maxRecDepth 100000
set_option maxHeartbeats 1600000
namespace Go.Proofs.YtgbgmadkmabeeaaGreat
open Go.RowKit
theorem Su(a0:Int)(a1:Int)(a2:Int)(w:World):Calls Tryz.prog 141 #[.agg #[.int .i64 a0,.int .i64 a1,.int .i64 a2],.agg #[.int .i64 a0,.int .i64 a1,.int .i64 a2]] w
  λe w'=>e= .returned (.bool true)/\K0 w w':=by
 go_enter Tryz.func141,Tryz.ntmps141;go_wp2;go_ret;exact⟨rfl,(Keeps.alloc _ _).trans (Keeps.alloc _ _)⟩
theorem Wp(L:List Ln)(v1 v2:Value)(w:World)(h1:Reads w 3 v1 L.length (L.flatMap Ln.cells))(h2:Reads w 3 v2 L.length (L.flatMap Ln.cells))(hl:L.length<=1000000000000):
  Calls Tryz.prog 140 #[v1,v2,.func (.func 141) #[] #[]] w λe w'=>e= .returned (.bool true)/\K0 w w':=by
 have g1:=h1;have g2:=h2;obtain⟨ad1,c1,rfl,_,_⟩:=g1;obtain⟨ad2,c2,rfl,_,_⟩:=g2;obtain⟨H1,H2⟩:=hid2 h1 h2;clear h2 h1;go_enter Tryz.func140,Tryz.ntmps140;go_wp2
 go_loopw [7] (λi wr=>∃k:Nat,k<=L.length/\i= .int .i64 k/\K0 w wr) (λi _=>L.length-(intOf i).toNat)
 case atStart=>exact⟨0,Nat.zero_le _,rfl,Keeps.refl _ _⟩
 case round=>
  obtain⟨k,hk,rfl,hkp⟩:=hrel;have Hkp:=Lib.hid hkp;clear hkp;by_cases hlt:k<L.length
  ·obtain⟨x,hx⟩:∃x,L[k]?=some x:=⟨L[k],List.getElem?_eq_getElem hlt⟩;obtain⟨g,o,c,he,hc⟩:=(H1.o.keeps Hkp.o (by simp)).elem Ln.Aj hx j7;obtain⟨g',o',c',he',hc'⟩:=(H2.o.keeps Hkp.o (by simp)).elem Ln.Aj hx j7;simp only [Value.slice.injEq,true_and] at he he';obtain⟨rfl,rfl⟩:=he;obtain⟨rfl,rfl⟩:=he';obtain⟨e0,e1,e2⟩:=x;have x0:wr.cell? ⟨g,o+k*3,none⟩=some (.int .i64 e0):=hc 0 j7;have x1:wr.cell? ⟨g,o+k*3+1,none⟩=some (.int .i64 e1):=hc 1 j7;have x2:wr.cell? ⟨g,o+k*3+2,none⟩=some (.int .i64 e2):=hc 2 j7;have y0:wr.cell? ⟨g',o'+k*3,none⟩=some (.int .i64 e0):=hc' 0 j7;have y1:wr.cell? ⟨g',o'+k*3+1,none⟩=some (.int .i64 e1):=hc' 1 j7;have y2:wr.cell? ⟨g',o'+k*3+2,none⟩=some (.int .i64 e2):=hc' 2 j7;clear hc hc';have Hx:=Lib.hid hx;clear hx;go_wp2
   go_still_tail 9,j9
   go_wp2_with (go_at_call 141;refine(Su _ _ _ _).mono ?_;rintro e w' ⟨rfl,hk2⟩;have Hk2:=Lib.hid hk2;clear hk2)
   exact j3W
  ·go_wp2;go_ret;exact⟨rfl,Hkp.o⟩
theorem Um(L:List Ln)(v1 v2:Value)(w:World)(h1:Reads w 3 v1 L.length (L.flatMap Ln.cells))(h2:Reads w 3 v2 L.length (L.flatMap Ln.cells))(hl:L.length<=1000000000000):
  Calls Tryz.prog 93 #[v1,v2] w λe w'=>e= .returned (.bool true)/\K0 w w':=by
 obtain⟨H1,H2⟩:=hid2 h1 h2;clear h2 h1;go_enter Tryz.func93,Tryz.ntmps93
 go_wp2_with (go_at_call 140;refine(Wp L _ _ _ H1.o H2.o hl).mono ?_;rintro e w' ⟨rfl,hk2⟩;have Hk2:=Lib.hid hk2;clear hk2)
 go_ret;exact⟨rfl,Hk2.o⟩
theorem Un(a:Int)(w:World):Calls Tryz.prog 128 #[.int .i64 a,.int .i64 a] w
  λe w'=>e= .returned (.bool true)/\w=w':=by
 go_enter Tryz.func128,Tryz.ntmps128;exact jk
theorem Yv(L:List Int)(v1 v2:Value)(w:World)(h1:Reads w 1 v1 L.length (L.flatMap i64c))(h2:Reads w 1 v2 L.length (L.flatMap i64c))(hl:L.length<=1000000000000):
  Calls Tryz.prog 127 #[v1,v2,.func (.func 128) #[] #[]] w λe w'=>e= .returned (.bool true)/\K0 w w':=by
 have g1:=h1;have g2:=h2;obtain⟨ad1,c1,rfl,_,_⟩:=g1;obtain⟨ad2,c2,rfl,_,_⟩:=g2;obtain⟨H1,H2⟩:=hid2 h1 h2;clear h2 h1;go_enter Tryz.func127,Tryz.ntmps127;go_wp2
 go_loopw [7] (λi wr=>∃k:Nat,k<=L.length/\i= .int .i64 k/\K0 w wr) (λi _=>L.length-(intOf i).toNat)
 case atStart=>exact⟨0,Nat.zero_le _,rfl,Keeps.refl _ _⟩
 case round=>
  obtain⟨k,hk,rfl,hkp⟩:=hrel;have Hkp:=Lib.hid hkp;clear hkp;by_cases hlt:k<L.length
  ·obtain⟨x,hx⟩:∃x,L[k]?=some x:=⟨L[k],List.getElem?_eq_getElem hlt⟩;obtain⟨g,o,c,he,hc⟩:=(H1.o.keeps Hkp.o (by simp)).elem Dq hx j7;obtain⟨g',o',c',he',hc'⟩:=(H2.o.keeps Hkp.o (by simp)).elem Dq hx j7;simp only [Value.slice.injEq,true_and] at he he';obtain⟨rfl,rfl⟩:=he;obtain⟨rfl,rfl⟩:=he';have x0:wr.cell? ⟨g,o+k,none⟩=some (.int .i64 x):=by have:=hc 0 j7;simpa [i64c] using this
   have y0:wr.cell? ⟨g',o'+k,none⟩=some (.int .i64 x):=by have:=hc' 0 j7;simpa [i64c] using this
   clear hc hc';have Hx:=Lib.hid hx;clear hx;go_wp2
   go_still_tail 9,j9
   go_wp2_with (go_at_call 128;refine(Un _ _).mono ?_;rintro e w' ⟨rfl,rfl⟩)
   go_roundw
   case rel=>exact⟨k+1,by omega,by go_num,(Hkp.o.trans (Keeps.drew _))⟩
   case measure=>simp [intOf];omega
  ·go_wp2;go_ret;exact⟨rfl,Hkp.o⟩
theorem Nl(L:List Int)(v1 v2:Value)(w:World)(h1:Reads w 1 v1 L.length (L.flatMap i64c))(h2:Reads w 1 v2 L.length (L.flatMap i64c))(hl:L.length<=1000000000000):
  Calls Tryz.prog 70 #[v1,v2] w λe w'=>e= .returned (.bool true)/\K0 w w':=by
 obtain⟨H1,H2⟩:=hid2 h1 h2;clear h2 h1;go_enter Tryz.func70,Tryz.ntmps70
 go_wp2_with (go_at_call 127;refine(Yv L _ _ _ H1.o H2.o hl).mono ?_;rintro e w' ⟨rfl,hk2⟩;have Hk2:=Lib.hid hk2;clear hk2)
 go_ret;exact⟨rfl,Hk2.o⟩
theorem Aau(s:Stm)(v1 v2:Value)(w:World)(h1:Reads w 3 v1 s.lines.length (s.lines.flatMap Ln.cells))(h2:Reads w 3 v2 s.lines.length (s.lines.flatMap Ln.cells))(hl:s.lines.length<=1000000000000):
  Calls Tryz.prog 47 #[s.val v1,s.val v2] w λe w'=>e= .returned (.bool true)/\K0 w w':=by
 obtain⟨cy,fr,te,du,tot,cr,mi,gr,L⟩:=s;simp only [Stm.val] at *;have g1:=h1;have g2:=h2;obtain⟨ad1,c1,rfl,_,_⟩:=g1;obtain⟨ad2,c2,rfl,_,_⟩:=g2;obtain⟨H1,H2⟩:=hid2 h1 h2;clear h2 h1;go_enter Tryz.func47,Tryz.ntmps47
 go_wp2_with (go_at_call 93;refine(Um L _ _ _ ((H1.o.alloc _).alloc _) ((H2.o.alloc _).alloc _) hl).mono ?_;rintro e w1 ⟨rfl,hk1⟩;have hb1:=Ad (Aq (heap_alloc_new w _) _) hk1 (by simp);have hb2:=Nb hk1 (by simp);simp only [World.size_alloc] at hb2;have xa:=Aa hb1;have xb:=Aa hb2;have xl1:=lt_of_block hb1;have xl2:=lt_of_block hb2;have Hk1:=Lib.hid hk1;clear hk1 hb1 hb2)
 exact j4y
theorem Aav(L:List Int)(n:Nat)(ad1 ad2:Option Addr)(c1 c2:Nat)(cr du:Int)(w:World)(hn:L.length=n)(h1:Reads w 1 (.slice ad1 n c1) n (L.flatMap i64c))(h2:Reads w 1 (.slice ad2 n c2) n (L.flatMap i64c))(hl:n<=1000000000000):
  Calls Tryz.prog 69 #[.agg #[.slice ad1 n c1,.int .i64 cr,.int .i64 du],.agg #[.slice ad2 n c2,.int .i64 cr,.int .i64 du]] w λe w'=>e= .returned (.bool true)/\K0 w w':=by
 have hc:=λW (hW:K0 w W)=>Nl L (.slice ad1 n c1) (.slice ad2 n c2) W (by rw [hn];exact h1.keeps hW (by simp)) (by rw [hn];exact h2.keeps hW (by simp)) j6;obtain⟨H1,H2,Hc,Hn⟩:=hid4 h1 h2 hc hn;clear hn hc h2 h1;go_enter Tryz.func69,Tryz.ntmps69
 go_wp2_with (go_at_call 70;(with_reducible refine(Hc.o _ ((Keeps.alloc _ _).Af)).mono ?_);rintro e w1 ⟨rfl,hk1⟩;have hb1:=Ad (Aq (heap_alloc_new w _) _) hk1 (by simp);have hb2:=Nb hk1 (by simp);simp only [World.size_alloc] at hb2;have xa:=Aa hb1;have xb:=Aa hb2;have xl1:=lt_of_block hb1;have xl2:=lt_of_block hb2;have Hk1:=Lib.hid hk1;clear hk1 hb1 hb2)
 exact j4y
end Go.Proofs.YtgbgmadkmabeeaaGreat
