/- Blocks of tactics that come again in the proofs of this claim, each written once: the default of an argument. -/
import Derived.Laws.Cover3
import Derived.Lib.Strings
import Derived.LaidEqlPtr
import Derived.Test.YtgbgmadkmabeeaaGreatO35
namespace Go.Proofs.YtgbgmadkmabeeaaGreat
open Go.RowKit
open Go.RowKit Go.IntWalk
open Go.ChangeShapes Go.WideShapes Go.RowKit Go.Deep
set_option maxRecDepth 100000
variable{P:Prop}
theorem yy0(h:P:=by omega):P:=h
theorem yy1(h:P:=by decide):P:=h
theorem yy3(h:P:=by kernel_rfl):P:=h
theorem ye(h:P:=by(repeat (first|exact Keeps.refl _ _|exact Keeps.alloc _ _|exact Keeps.drew _|exact Keeps.drewN _ _|refine Keeps.Am ?_|refine Keeps.Al ?_|refine Keeps.Ae ?_))):P:=h
theorem yl(h:P:=by exact Keeps.nt (Keeps.alloc (S:=λ_=>False) w (.cells #[.int .i64 li,.slice ad n cap,.int .i64 cy,.int .i64 du,.int .i64 mf,.int .i64 mp,.int .i64 st] 44)) hnb.kp):P:=h
theorem yh(h:P:=by exact Keeps.alloc (S:=λ_=>False) w (.cells #[.int .i64 li,.slice ad n cap,.int .i64 cy,.int .i64 du,.int .i64 mf,.int .i64 mp,.int .i64 st] 44)):P:=h
theorem yy4(h:P:=by unfold maxLen;omega):P:=h
theorem yc(h:P:=by simp [results,Tryz.results34,go_sem,r0,r1,r2,r3,r4,r5,r6]):P:=h
theorem yy2(h:P:=by omega):P:=h
theorem y8(h:P:=by exact rec_step Hk.out Hkw3.out hk5 Hnew.out hf5):P:=h
theorem yi(h:P:=by exact Keeps.alloc (S:=λ_=>False) w1 (.cells #[(.pointer (some ⟨P,0,none⟩)),.pointer none,.pointer none] 112)):P:=h
theorem y9(h:P:=by rw [HA2s.out];exact size_tTerms):P:=h
theorem y7(h:P:=by have:=Hk1.out.size;omega):P:=h
theorem yd(h:P:=by rw [HA1s.out];exact size_tTerms):P:=h
theorem yy6(h:P:=by
 cases Z
 all_goals
  clear hZ';obtain⟨H1,H2,Hp,Hf,Hk2,Hbs⟩:=hid6 h1 h2 hp hf hk2 hbs;clear hbs hk2 hf hp h2 h1;go_enter Tryz.func36,Tryz.ntmps36
  go_wp2_with (go_at_call 81;(with_reducible refine(Hp.out _ (Hk2.out _ _)).mono ?_);rintro e w1 ⟨rfl,hk1⟩;obtain⟨hA,hB⟩:=Hbs.out _ _ _ hk1;have x2:=Aa hA 2;have x3:=Aa hA 3;have x4:=Aa hA 4;have x5:=Aa hA 5;have x6:=Aa hA 6;have lA:=lt_of_block hA;have y2:=Aa hB 2;have y3:=Aa hB 3;have y4:=Aa hB 4;have y5:=Aa hB 5;have y6:=Aa hB 6;have lB:=lt_of_block hB;clear hA hB;have Hk1:=Lib.hid ((Hk2.out _ _).nt hk1);clear hk1)
  first|exact Hf.out _ Hk1.out|exact Hf.out _ (Hk2.out _ _)):P:=h
theorem yf(h:P:=by
 obtain⟨Hat,Hkq,Hmap,Hlen,Hpl,Hrow,Hlt,HZ4,Hrd4⟩:=hid9 hat hkq hmap hlen hpl hrow hlt hZ4 hrd4;clear hrd4 hZ4 hlt hrow hpl hlen hmap hkq hat;have Hnb:=Lib.hid hnb;clear hnb;have t0:=Aa (Hat.out.h3) 0;have t1:=Aa (Hat.out.h3) 1;have t2:=Aa (Hat.out.h3) 2;have t3:=Aa (Hat.out.h3) 3;have t4:=Aa (Hat.out.h3) 4;have t5:=Aa (Hat.out.h3) 5;have t6:=Aa (Hat.out.h3) 6;have tl:=lt_of_block (Hat.out.h3);have s0:=Aa (Hat.out.h2) 0;have s1:=Aa (Hat.out.h2) 1;have s2:=Aa (Hat.out.h2) 2;have s3:=Aa (Hat.out.h2) 3;have s4:=Aa (Hat.out.h2) 4;have s5:=Aa (Hat.out.h2) 5;have s6:=Aa (Hat.out.h2) 6;have sl:=lt_of_block (Hat.out.h2);have f0:=Ab (Hat.out.h2) 0;have f1:=Ab (Hat.out.h2) 1;have f2:=Ab (Hat.out.h2) 2;have f3:=Ab (Hat.out.h2) 3;have f4:=Ab (Hat.out.h2) 4;have f5:=Ab (Hat.out.h2) 5;have f6:=Ab (Hat.out.h2) 6;obtain⟨hb5,hk5⟩:=store7 (Hat.out.h2) (.int .i64 ul) (.slice av i cv) (.int .i64 (1+uc)) (.int .i64 (1+ud)) (.int .i64 uf) (.int .i64 up) (.int .i64 (10957+q));have hkz:=(Hkq.out).trans (hk5.mono λi _ e=> .inr (by have e':i=B+1:=e;have:=HBe.out;omega));have hrz:Reads _ 2 (.slice av i cv) Z.trs.length (Z.trs.flatMap Tn.cells):=(by rw [<-HZ4.out];exact Hrd4.out.keeps hk5 (λg hg e=>by have e':g=B+1:=e;subst e';exact Hnb.out hg));obtain⟨Hb5,Hk5,Hkz,Hrz⟩:=hid4 hb5 hk5 hkz hrz;clear hrz hkz hk5 hb5;go_wp2;clear s0 s1 s2 s3 s4 s5 s6;have r0:=Aa (Hb5.out) 0;have r1:=Aa (Hb5.out) 1;have r2:=Aa (Hb5.out) 2;have r3:=Aa (Hb5.out) 3;have r4:=Aa (Hb5.out) 4;have r5:=Aa (Hb5.out) 5;have r6:=Aa (Hb5.out) 6
 exact bodyPost_ret (v:= .agg #[.int .i64 ul,.slice av i cv,.int .i64 (1+uc),.int .i64 (1+ud),.int .i64 uf,.int .i64 up,.int .i64 (10957+q)]) yc rfl ⟨.slice av i cv,by rw [<-HZ4.out],Hrz.out,Hkz.out,.inr (λg hg=>Nat.le_trans Hk2.out.size (Hat.out.nw g hg))⟩):P:=h
theorem yb(h:P:=by
 obtain⟨B1,Hok0⟩:=hid2 b1 hok0;clear hok0 b1
 go_wp2_with (go_at_call 113;((with_reducible refine(rtmWithin_at B1.out _).mono ?_);rintro e w1 ⟨rfl,rfl⟩))
 go_meet
 exact⟨rfl,rfl⟩):P:=h
theorem ya(h:P:=by
 have H:=Lib.hid h;clear h;go_enter Tryz.func113,Tryz.ntmps113;go_wp2;go_ret
 exact⟨by rw [H.out];rfl,rfl⟩):P:=h
theorem yj(h:P:=by
 go_wp2_with fail
 go_loopw [70] (λa wr=>a= .int .i64 0/\wr=w7) (λ_ _=>0)
 case atStart=>exact⟨rfl,rfl⟩
 case round=>
  obtain⟨rfl,rfl⟩:=hrel;go_wp2
  exact HR.out):P:=h
theorem yy5(h:P:=by
 go_ret
 exact⟨by rw [Hf.out];rfl,Hk.out⟩):P:=h
theorem yg(h:P:=by
 exact bodyPost_ret (v:= .tuple #[v5,.int .i64 ((n:Int)+1),.bool true]) (by simp [results,Tryz.results103,go_sem]) rfl ⟨v5,by rw [hend],hown5,hst.1,hst.2⟩):P:=h
variable{T:Prop}(c:T)
include c
theorem yk(h:Bx T->P:=by
 intro cZ;have hs9:=Hs7.out.pf Hpad7.out hk9;have hsm9:=Hsm.out w9 (Hrd71.out.keeps hk9 Hsep71.out) (Hrd7.out.keeps hk9 Hsep7.out);have hkw9:Keeps (λ_=>False) w w9:=Hkw7.out.trans (hk9.mono λi _ e=> .inr (Hfoot.out i e))
 revert hs9 hsm9 hkw9
 exact cZ.1):P:=h ⟨c⟩
end Go.Proofs.YtgbgmadkmabeeaaGreat
