/- Part 2 of what the laws of this seat share: walks of functions, and plain laws. -/
import Derived.Test.YthffbjldpfionaaGreatC1
namespace Go.Proofs.YthffbjldpfionaaGreat
open Go.RowKit
theorem jZ38{P:Prop}(h:P:=by
 refine jump_normal ?_
 go_wp2
 go_roundw
 case rel=>exact⟨i+1,by go_num,by omega,Hrow2.out,Hat.out.fr⟩
 case measure=>simp [intOf];omega):P:=h
theorem jZ81{P:Prop}(h:P:=by
 have hrow2:=hat.row.1
 rw [←hend] at hrow2
 obtain⟨Hat,Hend,Hrow2,Hpl,Hlen,Hp0⟩:=hid6 hat hend hrow2 hpl hlen hp0;clear hp0 hlen hpl hrow2 hend hat
 go_wp2
 exact jZ38):P:=h
theorem jZ65{P:Prop}(h:P:=by
 go_region
 all_goals go_wp2_with fail
 all_goals go_step3
 all_goals go_wp2
 all_goals exact Az ⟨rkJ.mk k g c (by rw [Hri.out];rfl) ⟨by omega,Hset.out,by rw [Hri.out];exact Hpl.out,Hfr2.out⟩,by simp [slotNatR]⟩):P:=h
theorem jZ49{P:Prop}(h:P:=by
 refine rkJ.mk i g c (by rw [Hri.out];rfl) ⟨Nat.le_refl _,⟨?_, ?_⟩,rfl,Hfr4.out⟩
 ·rw [List.take_of_length_le (by omega),List.drop_eq_nil_of_le (by omega),List.append_nil,List.flatMap_append];exact Hown4.out
 ·rw [List.take_of_length_le (by omega),List.drop_eq_nil_of_le (by omega)];simp [hlen]):P:=h
theorem jZ105{P:Prop}(h:P:=by
 obtain rfl:i=n:=by omega
 obtain⟨Hrow,Hfr⟩:=hid2 hrow hfr;clear hfr hrow
 go_wp2
 go_ret
 exact⟨_,rfl,Hrow.out,Hfr.out⟩):P:=h
theorem jZ67{P:Prop}(h:P:=by
 go_wp2_with fail
 refine Hc.out.mono ?_
 rintro e w1 ⟨v,rfl,hr1,hf1⟩
 have Hr1:=Lib.hid hr1
 have Hf1:=Lib.hid hf1
 obtain⟨adv,cv,rfl,_,_⟩:=Aj hr1
 clear hr1 hf1
 go_wp2
 go_ret
 exact⟨_,rfl,Hr1.out,Hf1.out⟩):P:=h
theorem jZ28{P:Prop}(h:P:=by
 cases e with
 |normal=>exact⟨.normal,a₁,w₁,hq,Steps.trans harr (.one step_inScope)⟩
 |exit id=>exact⟨.exit id,a₁,w₁,hq,fun k' hk=>harr k' (by simp [exitTo,hk])⟩
 |goto l'=>
  rcases hq with⟨rfl,hJ',hlt⟩|⟨rfl,hJ',hlt⟩
  ·obtain⟨e₂,a₂,w₂,hq₂,harr₂⟩:=(ih _ (by omega)).1 a₁ w₁ rfl hJ'
   exact⟨e₂,a₂,w₂,hq₂,.of_steps (harr _ hg1) harr₂⟩
  ·obtain⟨e₂,a₂,w₂,hq₂,harr₂⟩:=(ih _ (by omega)).2 a₁ w₁ rfl hJ'
   exact⟨e₂,a₂,w₂,hq₂,.of_steps (harr _ hg2) harr₂⟩
 |ret=>exact⟨_,a₁,w₁,hq,harr⟩
 |panic ch=>exact⟨_,a₁,w₁,hq,harr⟩
 |outgrown=>exact⟨_,a₁,w₁,hq,harr⟩):P:=h
theorem jZ26{P:Prop}(h:P:=by
 go_wp2
 go_ret
 exact⟨by rw [Hf.out];rfl,rfl⟩):P:=h
theorem jZ68{P:Prop}(h:P:=by
 have Hf:=Lib.hid hf;clear hf
 go_enter Tryz.func131,Tryz.ntmps131
 exact jZ26):P:=h
theorem jZ21{P:Prop}(h:P:=by
 have Hm:=Lib.hid hm;clear hm
 go_enter Tryz.func107,Tryz.ntmps107
 go_wp2
 go_ret
 exact⟨rfl,rfl⟩):P:=h
theorem jZ72{P:Prop}(h:P:=by
 obtain⟨Hlp,Hf⟩:=hid2 hlp hf;clear hf hlp
 go_enter Tryz.func107,Tryz.ntmps107
 go_wp2_with (go_at_call 131;(refine Hlp.out.mono ?_);rintro e w1 ⟨rfl,rfl⟩)
 go_ret
 exact⟨by rw [Hf.out];rfl,rfl⟩):P:=h
theorem jZ91{P:Prop}(h:P:=by
 have Hf:=Lib.hid hf;clear hf
 go_enter Tryz.func170,Tryz.ntmps170
 exact jZ26):P:=h
theorem jZ95{P:Prop}(h:P:=by
 go_ret
 exact⟨_,rfl,by rw [Hf.out,Hj0.out],rfl⟩):P:=h
theorem jZ93{P:Prop}(h:P:=by
 have Hf:=Lib.hid hf;clear hf
 go_enter Tryz.func132,Tryz.ntmps132
 exact jZ26):P:=h
theorem jZ60{P:Prop}(h:P:=by
 go_wp2_with (first|(go_at_call 132;(with_reducible refine(Bo m3 _).mono ?_);rintro e w1 ⟨rfl,rfl⟩)|(go_at_call 132;(with_reducible refine(Bo m4 _).mono ?_);rintro e w1 ⟨rfl,rfl⟩))
 go_ret
 exact⟨rfl,(Keeps.alloc w _).nt Hk.out⟩):P:=h
theorem jZ11{P:Prop}(h:P:=by
 obtain⟨Hf,Hsc,HN,Hall,Hk⟩:=hid5 hf hsc hN hall hk;clear hk hall hN hsc hf
 exact jZ60):P:=h
theorem jZ80{P:Prop}(h:P:=by
 obtain rfl:z=false:=Hz.out.symm.trans hf
 exact jZ11):P:=h
theorem jZ104{P:Prop}(h:P:=by
 have hf:Ps.rightB ⟨L,cr,du⟩=false:=by unfold Ps.rightB;simp only [*,decide_true,Bool.false_and,Bool.and_false]
 exact jZ80):P:=h
theorem jZ46{P:Prop}(h:P:=by
 go_wp2_with fail
 refine(Hri.out _ (by(repeat (first|exact Keeps.refl _ _|exact Keeps.alloc _ _|exact Keeps.drew _|exact Keeps.drewN _ _|refine Keeps.Ap ?_|refine Keeps.Al ?_|refine Keeps.Ae ?_)))).mono ?_
 rintro e w1 ⟨rfl,hk1⟩
 have Hk1:=Lib.hid ((Keeps.alloc w _).nt hk1)
 clear hk1
 go_wp2
 go_ret
 exact⟨rfl,Hk1.out⟩):P:=h
theorem jZ69{P:Prop}(h:P:=by
 subst h
 obtain⟨Hall,Hk,Hkb,Hkw⟩:=hid4 hall hk hkb hkw;clear hkw hkb hk hall
 go_wp2_with (go_at_call 132;(with_reducible refine(Bo m3 _).mono ?_);rintro e w2 ⟨rfl,rfl⟩)
 go_ret
 exact⟨rfl,Hkw.out⟩):P:=h
theorem jZ55{P:Prop}(h:P:=by
 obtain⟨Hb,Hrow,Hx,HxD,Hmin,K1,K2,Hrow1,Hpost⟩:=hid9 hb hrow hx hxD hmin k1 k2 hrow1 hpost;clear hpost hrow1 k2 k1 hmin hxD hx hrow hb;obtain⟨Hi,Hm⟩:=hid2 hi hm;clear hm hi
 go_enter Tryz.func144,Tryz.ntmps144
 go_wp2
 go_end0
 exact⟨rfl,Hpost.out⟩):P:=h
theorem jZ86{P:Prop}(h:P:=by
 have h1':decide (-1000000000000000≤v)=true:=by rw [decide_eq_true_iff];omega
 have Hf:=Lib.hid hf;clear hf
 go_enter Tryz.func133,Tryz.ntmps133
 exact jZ26):P:=h
theorem jZ113{P:Prop}(h:P:=by
 obtain⟨h1,h2⟩:=List.getElem?_eq_some_iff.1 hx
 rw [List.drop_eq_getElem_cons h1,h2]):P:=h
theorem jZ76{P:Prop}(h:P:=by
 go_step3
 go_wp2
 refine Az ?_
 go_wp2
 rw [Exit.noGoto_ret]
 exact bodyPost_ret (v:= .tuple #[.int .i64 0,.int .i64 5]) (by simp [results,Tryz.results111,go_sem]) rfl ⟨rfl,rfl⟩):P:=h
theorem jZ39{P:Prop}(h:P:=by
 obtain⟨Hdiv,HN,Hqq,Hrr⟩:=hid4 hdiv hN hqq hrr;clear hrr hqq hN hdiv
 go_enter Tryz.func151,Tryz.ntmps151
 go_wp2_with fail
 refine Be 0 rfl ?_
 go_wp2_with fail
 refine(Hdiv.out _).mono ?_
 rintro e w1 ⟨rfl,hk1⟩
 have Hk1:=Lib.hid hk1;clear hk1
 go_wp2_with fail
 refine Bl ?_
 exact bodyPost_ret (v:= .tuple #[.int .u64 q,.bool true]) (by simp [results,Tryz.results151,go_sem]) rfl ⟨rfl,Hk1.out⟩):P:=h
theorem jZ35{P:Prop}(h:P:=by
 have hpos:0<q+1:=by omega
 obtain⟨Hdiv,HN,Hqq,Hrr⟩:=hid4 hdiv hN hqq hrr;clear hrr hqq hN hdiv
 go_enter Tryz.func151,Tryz.ntmps151
 go_wp2_with fail
 refine Be 0 rfl ?_
 go_wp2_with fail
 refine(Hdiv.out _).mono ?_
 rintro e w1 ⟨rfl,hk1⟩
 have Hk1:=Lib.hid hk1;clear hk1
 go_wp2_with fail
 refine Bl ?_
 exact bodyPost_ret (v:= .tuple #[.int .u64 (q+1),.bool true]) (by simp [results,Tryz.results151,go_sem]) rfl ⟨rfl,Hk1.out⟩):P:=h
theorem jZ90{P:Prop}(h:P:=by
 have Hf:=Lib.hid hf;clear hf
 go_enter Tryz.func172,Tryz.ntmps172
 exact jZ26):P:=h
theorem rkJ.mk{hi:Bool}{R:List Int}{i:Nat}{w:World}{vR clo:Value}{n:Nat}{a':Act}{W:World}(k g c:Nat)(h:a'=rkFr vR clo (.slice (some ⟨g,0,none⟩) (i+1) c) i n k (R.getD i 0) (fun j=>a'.tmps.getD j undef))(hr:RkAt hi R i w g c k W):rkJ hi R i w vR clo n a' W:=⟨k,g,c,_,h,hr⟩
theorem swap_back{O:List Int}{k:Nat}{x y:Int}(hk:O[k]?=some y):((O.take (k+1)++ [x]++O.drop (k+1)).set k x).set (k+1) y=O.take k++ [x]++O.drop k:=by
 have hl:k<O.length:=(List.getElem?_eq_some_iff.1 hk).1
 have h1:O.take (k+1)=O.take k++ [y]:=by rw [List.take_add_one,hk];rfl
 have h2:O.drop k=y::O.drop (k+1):=by rw [List.drop_eq_getElem_cons hl];congr 1;exact(List.getElem?_eq_some_iff.1 hk).2
 have hlen:(O.take k).length=k:=by rw [List.length_take];omega
 rw [h1,h2]
 simp only [List.append_assoc,List.cons_append,List.nil_append]
 rw [List.set_append_right _ _ (by omega),hlen,Nat.sub_self,List.set_cons_zero,List.set_append_right _ _ (by omega),hlen,show k+1-k=1 by omega]
 rfl
theorem mid_get{O:List Int}{k:Nat}{x:Int}(hk:k≤O.length):(O.take k++ [x]++O.drop k)[k]?=some x:=by
 rw [List.append_assoc,List.getElem?_append_right (by rw [List.length_take];omega),List.length_take,show k-min k O.length=0 by omega];rfl
theorem mid_prev{O:List Int}{k:Nat}{x y:Int}(hk:O[k]?=some y):(O.take (k+1)++ [x]++O.drop (k+1))[k]?=some y:=by
 have hl:k<O.length:=(List.getElem?_eq_some_iff.1 hk).1
 rw [List.append_assoc,List.getElem?_append_left (by rw [List.length_take];omega),List.getElem?_take,if_pos (by omega),hk]
set_option maxRecDepth 100000
set_option maxHeartbeats 3200000
theorem rankRanked_hi(R:List Int)(ad:Option Addr)(cap:Nat)(w:World)(hr:Reads w 1 (.slice ad R.length cap) R.length (R.flatMap i64c))(hl:R.length≤1000):
  Calls Tryz.prog 161 #[.slice ad R.length cap,.func (.func 162) #[] #[]] w fun e w'=>∃v',e= .returned v'∧w'.ownsRow 0 3 1 v' R.length ((rankL true R).flatMap i64c)∧Fresh w w' v':=by
 obtain⟨i0,hi,hi0,hi1,hi2⟩:=info_parts info_tInt
 unfold rankL
 obtain⟨n,hn⟩:∃n,R.length=n:=⟨_,rfl⟩
 rw [hn] at hr hl⊢
 obtain⟨Hr,Hn,Hi,Hi0,Hi1,Hi2⟩:=hid6 hr hn hi hi0 hi1 hi2;clear hi2 hi1 hi0 hi hn hr
 go_enter Tryz.func161,Tryz.ntmps161
 go_wp2
 go_loopw [5,11] (fun x y wx=>∃i:Nat,y= .int .i64 (i:Nat)∧i≤n∧wx.ownsRow 0 3 1 x i ((rankN true R i).flatMap i64c)∧Fresh w wx x) (fun _ y _=>n-(intOf y).toNat)
 case atStart=>exact⟨0,rfl,Nat.zero_le _,World.ownsRow_nil _ _ _ _,Fresh.nil w⟩
 case round=>
  obtain⟨i,rfl,hin,hrow,hfr⟩:=hrel
  obtain⟨W1,hW1⟩:∃x,x=wr:=⟨_,rfl⟩
  subst hW1
  obtain⟨adv,cv,hv,_,_⟩:=Aj hrow
  subst hv
  by_cases hlt:i<n
  ·have hltI:(i:Int)<(n:Int):=by omega
   obtain⟨r,hx⟩:=Av (L:=R) (k:=i) (by rw [Hn.out];exact hlt)
   have hri:R.getD i 0=r:=by rw [List.getD_eq_getElem?_getD,hx];rfl
   obtain⟨gR,oR,he,hc⟩:=(Hr.out.keeps hfr.1 (by simp)).int (k:= .i64) hx
   subst he
   have hgl:=Ag hc
   obtain⟨Hrow,Hfr,Hx,Hri⟩:=hid4 hrow hfr hx hri;clear hri hx hfr hrow
   go_wp2_with fail
   refine Cs 0 (rkJ true R i w (.slice (some ⟨gR,oR,none⟩) n cap) (.func (.func 162) #[] #[]) n) (fun a' _=>slotNatR 8 a') rfl ?_ ?_
   ·rintro a' W ⟨k,g,c,u,rfl,hat⟩
    unfold rkFr
    rw [Hri.out]
    have hki:=hat.ki
    have hlen:=De true R i
    rcases k with _|k
    ·have hp0:plR true R r (rankN true R i) 0=0:=rfl
     have hpl:=hat.pl
     rw [Hri.out,hp0] at hpl
     have hend:rankN true R (i+1)=(rankN true R i).take 0++ [(i:Int)+1]++(rankN true R i).drop 0:=by
      show insR true R i (rankN true R i)=_
      unfold insR
      rw [hlen,Hri.out,hpl]
     exact jZ81
    ·obtain⟨y,hy⟩:=Av (L:=rankN true R i) (k:=k) (by omega)
     obtain⟨y1,y2⟩:=Dc (List.mem_of_getElem? hy)
     have hyD:(rankN true R i).getD k 0=y:=by rw [List.getD_eq_getElem?_getD,hy];rfl
     obtain⟨m,hm⟩:∃m:Nat,(m:Int)=y-1:=⟨(y-1).toNat,by omega⟩
     obtain⟨v,hv⟩:=Av (L:=R) (k:=m) (by rw [Hn.out];omega)
     have hrt:rt R y=v:=by unfold rt;rw [show(y-1).toNat=m by omega,List.getD_eq_getElem?_getD,hv];rfl
     have hpl:=hat.pl
     rw [Hri.out] at hpl
     have hps:plR true R r (rankN true R i) (k+1)=if aheadB true r v=true then plR true R r (rankN true R i) k else k+1:=by show(if _ then _ else _)=_;rw [hyD,hrt]
     rw [hps] at hpl
     obtain⟨g3,o3,he3,hc3⟩:=(Hr.out.keeps hat.fr.1 (by simp)).int (k:= .i64) hv
     simp only [Option.some.injEq,Addr.mk.injEq,and_true] at he3
     obtain⟨rfl,rfl⟩:=he3
     have cR:=hc3
     have lR:=Ag hc3
     have ck:=hat.row.cell (mid_prev (x:=(i:Int)+1) hy)
     have ck1:=hat.row.cell (mid_get (O:=rankN true R i) (x:=(i:Int)+1) (k:=k+1) (by omega))
     have fk:=hat.row.free k
     have fk1:=hat.row.free (k+1)
     have lg:=hat.row.lt
     have hset:=((hat.row.set (k:=k) (by omega) ((i:Int)+1)).set (k:=k+1) (by omega) y).keep (Keeps.drew _)
     rw [swap_back hy] at hset
     have hfr2:=((hat.fr.set (g:=g) (j:=k) rfl (.int .i64 ((i:Int)+1))).set (g:=g) (j:=k+1) rfl (.int .i64 y)).keep (Keeps.drew _)
     have q1:(0:Int)≤y-1:=by omega
     have q2:y-1<(n:Int):=by omega
     have q3:(y-1).toNat=m:=by omega
     have q4:IntKind.i64.wrap (y-1)=y-1:=IntWalk.i64_in _ ⟨by omega,by omega⟩
     have q5:IntKind.i64.wrap (k:Int)=(k:Int):=IntWalk.i64_in _ ⟨by omega,by omega⟩
     have q6:(k:Int)+1<(i:Int)+1:=by omega
     have q7:(k:Int)<(i:Int)+1:=by omega
     have q8:((k:Int)+1).toNat=k+1:=by omega
     have q9:(0:Int)≤(k:Int)+1:=by omega
     have hcl:=fun W=>rankHigh1_any r v W
     by_cases hah:aheadB true r v=true
     ·rw [if_pos hah] at hpl
      rw [hah] at hcl
      obtain⟨Hat,Hy,HyD,Hm,Hv,Hrt,Hpl,Hps,Hset⟩:=hid9 hat hy hyD hm hv hrt hpl hps hset;clear hset hps hpl hrt hv hm hyD hy hat;obtain⟨Hfr2,Hcl,Hlen,Hah⟩:=hid4 hfr2 hcl hlen hah;clear hah hlen hcl hfr2
      go_wp2_with (go_at_call 162;(refine(Hcl.out _).mono ?_);rintro e w1 ⟨rfl,rfl⟩)
      exact jZ65
     ·rw [if_neg hah] at hpl
      have hah2:aheadB true r v=false:=by simpa using hah
      rw [hah2] at hcl
      have hend:rankN true R (i+1)=(rankN true R i).take (k+1)++ [(i:Int)+1]++(rankN true R i).drop (k+1):=by
       show insR true R i (rankN true R i)=_
       unfold insR
       rw [hlen,Hri.out,hpl]
      have hrow2:=hat.row.1
      rw [←hend] at hrow2
      obtain⟨Hat,Hy,HyD,Hm,Hv,Hrt,Hpl,Hps,Hset⟩:=hid9 hat hy hyD hm hv hrt hpl hps hset;clear hset hps hpl hrt hv hm hyD hy hat;obtain⟨Hfr2,Hcl,Hlen,Hah,Hah2,Hend,Hrow2⟩:=hid7 hfr2 hcl hlen hah hah2 hend hrow2;clear hrow2 hend hah2 hah hlen hcl hfr2
      go_wp2_with (go_at_call 162;(refine(Hcl.out _).mono ?_);rintro e w1 ⟨rfl,rfl⟩)
      exact jZ38
   ·intro hfirst
    have Hfirst:=Lib.hid hfirst;clear hfirst
    go_wp2_with (at_builtin;refine Ba rfl (.tmp 16) (.tmp 19) 212 rfl 0 3 i0 _ 1 8 Tryz.underlying212 Hi.out Hi0.out Hi1.out Hi2.out rfl (by decide) _ i _ rfl (Hrow.out.alloc _) _ 1 _ rfl (Reads.litAt _ _ _ 1 1 _ (by first|rfl|simp) rfl) (by simp [Value.oneCell']) (by unfold maxLen;omega) (by omega) (Nat.zero_le _) ?_;intro v4 w4 hown4 hk4 hf4;have hfr4:=(Hfr.out.keep (Keeps.alloc _ _)).app hk4 hf4;obtain⟨g,c,hv4,hc4⟩:=Cu hown4 (by omega);subst hv4;have Hown4:=Lib.hid hown4;have Hfr4:=Lib.hid hfr4;clear hown4 hk4 hf4 hfr4)
    go_step3
    rename_i hK
    refine hK _ _ ?_
    refine Hfirst.out _ _ ?_
    have hlen:=De true R i
    exact jZ49
  ·exact jZ105
theorem rankRanked_lo(R:List Int)(ad:Option Addr)(cap:Nat)(w:World)(hr:Reads w 1 (.slice ad R.length cap) R.length (R.flatMap i64c))(hl:R.length≤1000):
  Calls Tryz.prog 161 #[.slice ad R.length cap,.func (.func 171) #[] #[]] w fun e w'=>∃v',e= .returned v'∧w'.ownsRow 0 3 1 v' R.length ((rankL false R).flatMap i64c)∧Fresh w w' v':=by
 obtain⟨i0,hi,hi0,hi1,hi2⟩:=info_parts info_tInt
 unfold rankL
 obtain⟨n,hn⟩:∃n,R.length=n:=⟨_,rfl⟩
 rw [hn] at hr hl⊢
 obtain⟨Hr,Hn,Hi,Hi0,Hi1,Hi2⟩:=hid6 hr hn hi hi0 hi1 hi2;clear hi2 hi1 hi0 hi hn hr
 go_enter Tryz.func161,Tryz.ntmps161
 go_wp2
 go_loopw [5,11] (fun x y wx=>∃i:Nat,y= .int .i64 (i:Nat)∧i≤n∧wx.ownsRow 0 3 1 x i ((rankN false R i).flatMap i64c)∧Fresh w wx x) (fun _ y _=>n-(intOf y).toNat)
 case atStart=>exact⟨0,rfl,Nat.zero_le _,World.ownsRow_nil _ _ _ _,Fresh.nil w⟩
 case round=>
  obtain⟨i,rfl,hin,hrow,hfr⟩:=hrel
  obtain⟨W1,hW1⟩:∃x,x=wr:=⟨_,rfl⟩
  subst hW1
  obtain⟨adv,cv,hv,_,_⟩:=Aj hrow
  subst hv
  by_cases hlt:i<n
  ·have hltI:(i:Int)<(n:Int):=by omega
   obtain⟨r,hx⟩:=Av (L:=R) (k:=i) (by rw [Hn.out];exact hlt)
   have hri:R.getD i 0=r:=by rw [List.getD_eq_getElem?_getD,hx];rfl
   obtain⟨gR,oR,he,hc⟩:=(Hr.out.keeps hfr.1 (by simp)).int (k:= .i64) hx
   subst he
   have hgl:=Ag hc
   obtain⟨Hrow,Hfr,Hx,Hri⟩:=hid4 hrow hfr hx hri;clear hri hx hfr hrow
   go_wp2_with fail
   refine Cs 0 (rkJ false R i w (.slice (some ⟨gR,oR,none⟩) n cap) (.func (.func 171) #[] #[]) n) (fun a' _=>slotNatR 8 a') rfl ?_ ?_
   ·rintro a' W ⟨k,g,c,u,rfl,hat⟩
    unfold rkFr
    rw [Hri.out]
    have hki:=hat.ki
    have hlen:=De false R i
    rcases k with _|k
    ·have hp0:plR false R r (rankN false R i) 0=0:=rfl
     have hpl:=hat.pl
     rw [Hri.out,hp0] at hpl
     have hend:rankN false R (i+1)=(rankN false R i).take 0++ [(i:Int)+1]++(rankN false R i).drop 0:=by
      show insR false R i (rankN false R i)=_
      unfold insR
      rw [hlen,Hri.out,hpl]
     exact jZ81
    ·obtain⟨y,hy⟩:=Av (L:=rankN false R i) (k:=k) (by omega)
     obtain⟨y1,y2⟩:=Dc (List.mem_of_getElem? hy)
     have hyD:(rankN false R i).getD k 0=y:=by rw [List.getD_eq_getElem?_getD,hy];rfl
     obtain⟨m,hm⟩:∃m:Nat,(m:Int)=y-1:=⟨(y-1).toNat,by omega⟩
     obtain⟨v,hv⟩:=Av (L:=R) (k:=m) (by rw [Hn.out];omega)
     have hrt:rt R y=v:=by unfold rt;rw [show(y-1).toNat=m by omega,List.getD_eq_getElem?_getD,hv];rfl
     have hpl:=hat.pl
     rw [Hri.out] at hpl
     have hps:plR false R r (rankN false R i) (k+1)=if aheadB false r v=true then plR false R r (rankN false R i) k else k+1:=by show(if _ then _ else _)=_;rw [hyD,hrt]
     rw [hps] at hpl
     obtain⟨g3,o3,he3,hc3⟩:=(Hr.out.keeps hat.fr.1 (by simp)).int (k:= .i64) hv
     simp only [Option.some.injEq,Addr.mk.injEq,and_true] at he3
     obtain⟨rfl,rfl⟩:=he3
     have cR:=hc3
     have lR:=Ag hc3
     have ck:=hat.row.cell (mid_prev (x:=(i:Int)+1) hy)
     have ck1:=hat.row.cell (mid_get (O:=rankN false R i) (x:=(i:Int)+1) (k:=k+1) (by omega))
     have fk:=hat.row.free k
     have fk1:=hat.row.free (k+1)
     have lg:=hat.row.lt
     have hset:=((hat.row.set (k:=k) (by omega) ((i:Int)+1)).set (k:=k+1) (by omega) y).keep (Keeps.drew _)
     rw [swap_back hy] at hset
     have hfr2:=((hat.fr.set (g:=g) (j:=k) rfl (.int .i64 ((i:Int)+1))).set (g:=g) (j:=k+1) rfl (.int .i64 y)).keep (Keeps.drew _)
     have q1:(0:Int)≤y-1:=by omega
     have q2:y-1<(n:Int):=by omega
     have q3:(y-1).toNat=m:=by omega
     have q4:IntKind.i64.wrap (y-1)=y-1:=IntWalk.i64_in _ ⟨by omega,by omega⟩
     have q5:IntKind.i64.wrap (k:Int)=(k:Int):=IntWalk.i64_in _ ⟨by omega,by omega⟩
     have q6:(k:Int)+1<(i:Int)+1:=by omega
     have q7:(k:Int)<(i:Int)+1:=by omega
     have q8:((k:Int)+1).toNat=k+1:=by omega
     have q9:(0:Int)≤(k:Int)+1:=by omega
     have hcl:=fun W=>rankLow1_any r v W
     by_cases hah:aheadB false r v=true
     ·rw [if_pos hah] at hpl
      rw [hah] at hcl
      obtain⟨Hat,Hy,HyD,Hm,Hv,Hrt,Hpl,Hps,Hset⟩:=hid9 hat hy hyD hm hv hrt hpl hps hset;clear hset hps hpl hrt hv hm hyD hy hat;obtain⟨Hfr2,Hcl,Hlen,Hah⟩:=hid4 hfr2 hcl hlen hah;clear hah hlen hcl hfr2
      go_wp2_with (go_at_call 171;(refine(Hcl.out _).mono ?_);rintro e w1 ⟨rfl,rfl⟩)
      exact jZ65
     ·rw [if_neg hah] at hpl
      have hah2:aheadB false r v=false:=by simpa using hah
      rw [hah2] at hcl
      have hend:rankN false R (i+1)=(rankN false R i).take (k+1)++ [(i:Int)+1]++(rankN false R i).drop (k+1):=by
       show insR false R i (rankN false R i)=_
       unfold insR
       rw [hlen,Hri.out,hpl]
      have hrow2:=hat.row.1
      rw [←hend] at hrow2
      obtain⟨Hat,Hy,HyD,Hm,Hv,Hrt,Hpl,Hps,Hset⟩:=hid9 hat hy hyD hm hv hrt hpl hps hset;clear hset hps hpl hrt hv hm hyD hy hat;obtain⟨Hfr2,Hcl,Hlen,Hah,Hah2,Hend,Hrow2⟩:=hid7 hfr2 hcl hlen hah hah2 hend hrow2;clear hrow2 hend hah2 hah hlen hcl hfr2
      go_wp2_with (go_at_call 171;(refine(Hcl.out _).mono ?_);rintro e w1 ⟨rfl,rfl⟩)
      exact jZ38
   ·intro hfirst
    have Hfirst:=Lib.hid hfirst;clear hfirst
    go_wp2_with (at_builtin;refine Ba rfl (.tmp 16) (.tmp 19) 212 rfl 0 3 i0 _ 1 8 Tryz.underlying212 Hi.out Hi0.out Hi1.out Hi2.out rfl (by decide) _ i _ rfl (Hrow.out.alloc _) _ 1 _ rfl (Reads.litAt _ _ _ 1 1 _ (by first|rfl|simp) rfl) (by simp [Value.oneCell']) (by unfold maxLen;omega) (by omega) (Nat.zero_le _) ?_;intro v4 w4 hown4 hk4 hf4;have hfr4:=(Hfr.out.keep (Keeps.alloc _ _)).app hk4 hf4;obtain⟨g,c,hv4,hc4⟩:=Cu hown4 (by omega);subst hv4;have Hown4:=Lib.hid hown4;have Hfr4:=Lib.hid hfr4;clear hown4 hk4 hf4 hfr4)
    go_step3
    rename_i hK
    refine hK _ _ ?_
    refine Hfirst.out _ _ ?_
    have hlen:=De false R i
    exact jZ49
  ·exact jZ105
set_option maxHeartbeats 800000
theorem rankHigh_any(R:List Int)(ad:Option Addr)(cap:Nat)(w:World)(hr:Reads w 1 (.slice ad R.length cap) R.length (R.flatMap i64c))(hl:R.length≤1000):
  Calls Tryz.prog 147 #[.slice ad R.length cap] w fun e w'=>∃v',e= .returned v'∧w'.ownsRow 0 3 1 v' R.length ((rankL true R).flatMap i64c)∧Fresh w w' v':=by
 have hc:=rankRanked_hi R ad cap w hr hl
 obtain⟨Hc,Hr⟩:=hid2 hc hr;clear hr hc
 go_enter Tryz.func147,Tryz.ntmps147
 exact jZ67
theorem rankLow_any(R:List Int)(ad:Option Addr)(cap:Nat)(w:World)(hr:Reads w 1 (.slice ad R.length cap) R.length (R.flatMap i64c))(hl:R.length≤1000):
  Calls Tryz.prog 160 #[.slice ad R.length cap] w fun e w'=>∃v',e= .returned v'∧w'.ownsRow 0 3 1 v' R.length ((rankL false R).flatMap i64c)∧Fresh w w' v':=by
 have hc:=rankRanked_lo R ad cap w hr hl
 obtain⟨Hc,Hr⟩:=hid2 hc hr;clear hr hc
 go_enter Tryz.func160,Tryz.ntmps160
 exact jZ67
def Exit.jump2(l1:Nat)(J1:Act→World→Prop)(l2:Nat)(J2:Act→World→Prop)(Q:Exit→Act→World→Prop):Exit→Act→World→Prop
 | .goto l',a,w=>(l'=l1∧J1 a w)∨(l'=l2∧J2 a w)
 |e,a,w=>Q e a w
theorem jump2_1{l1 l2:Nat}{J1 J2:Act→World→Prop}{Q:Exit→Act→World→Prop}{a:Act}{w:World}(h:J1 a w):Exit.jump2 l1 J1 l2 J2 Q (.goto l1) a w:= .inl ⟨rfl,h⟩
theorem jump2_2{l1 l2:Nat}{J1 J2:Act→World→Prop}{Q:Exit→Act→World→Prop}{a:Act}{w:World}(h:J2 a w):Exit.jump2 l1 J1 l2 J2 Q (.goto l2) a w:= .inr ⟨rfl,h⟩
theorem jump2_ret{l1 l2:Nat}{J1 J2:Act→World→Prop}{Q:Exit→Act→World→Prop}{a:Act}{w:World}(h:Q .ret a w):Exit.jump2 l1 J1 l2 J2 Q .ret a w:=h
theorem wp_scope_ahead2{P:Program}{a:Act}{w:World}{Q:Exit→Act→World→Prop}{c rest1 rest2:Code}(l1 l2:Nat)(hf1:findLabel c l1=some rest1)(hf2:findLabel c l2=some rest2)
  (h:c.wp P (Exit.jump2 l1 (fun a' w'=>rest1.wp P (Exit.noGoto Q) a' w') l2 (fun a' w'=>rest2.wp P (Exit.noGoto Q) a' w') Q) a w):(Code.scope c).wp P Q a w:=by
 intro b k cs
 have key:∀(rest:Code) (a:Act) (w:World),rest.wp P (Exit.noGoto Q) a w→∃e a' w',Q e a' w'∧Arrives P (lone (b.at a (.code rest:: .inScope c::k)) cs w) b k cs e a' w':=by
  intro rest a w hJ
  obtain⟨e,a₁,w₁,hq,harr⟩:=hJ b (.inScope c::k) cs
  cases e with
  |normal=>exact⟨.normal,a₁,w₁,hq,Steps.trans harr (.one step_inScope)⟩
  |exit id=>exact⟨.exit id,a₁,w₁,hq,fun k' hk=>harr k' (by simp [exitTo,hk])⟩
  |goto l'=>exact hq.elim
  |ret=>exact⟨_,a₁,w₁,hq,harr⟩
  |panic ch=>exact⟨_,a₁,w₁,hq,harr⟩
  |outgrown=>exact⟨_,a₁,w₁,hq,harr⟩
 obtain⟨e,a₁,w₁,hq,harr⟩:=h b (.inScope c::k) cs
 cases e with
 |normal=>exact⟨.normal,a₁,w₁,hq,.head step_scope (Steps.trans harr (.one step_inScope))⟩
 |exit id=>exact⟨.exit id,a₁,w₁,hq,fun k' hk=> .head step_scope (harr k' (by simp [exitTo,hk]))⟩
 |goto l'=>
  rcases hq with⟨rfl,hJ'⟩|⟨rfl,hJ'⟩
  ·obtain⟨e₂,a₂,w₂,hq₂,harr₂⟩:=key _ a₁ w₁ hJ'
   exact⟨e₂,a₂,w₂,hq₂,.of_steps (.head step_scope (harr _ (by simp [gotoIn,hf1]))) harr₂⟩
  ·obtain⟨e₂,a₂,w₂,hq₂,harr₂⟩:=key _ a₁ w₁ hJ'
   exact⟨e₂,a₂,w₂,hq₂,.of_steps (.head step_scope (harr _ (by simp [gotoIn,hf2]))) harr₂⟩
 |ret=>exact⟨_,a₁,w₁,hq,.of_steps (.one step_scope) harr⟩
 |panic ch=>exact⟨_,a₁,w₁,hq,.of_steps (.one step_scope) harr⟩
 |outgrown=>exact⟨_,a₁,w₁,hq,.of_steps (.one step_scope) harr⟩
theorem wp_scope_two{P:Program}{a:Act}{w:World}{Q:Exit→Act→World→Prop}{c rest1 rest2:Code}(l1 l2:Nat)(J1 J2:Act→World→Prop)(M1 M2:Act→World→Nat)(hf1:findLabel c l1=some rest1)(hf2:findLabel c l2=some rest2)
  (pass1:∀a w,J1 a w→rest1.wp P (Exit.jump2 l1 (fun a' w'=>J1 a' w'∧M1 a' w'<M1 a w) l2 (fun a' w'=>J2 a' w'∧M2 a' w'<M1 a w) Q) a w)
  (pass2:∀a w,J2 a w→rest2.wp P (Exit.jump2 l1 (fun a' w'=>J1 a' w'∧M1 a' w'<M2 a w) l2 (fun a' w'=>J2 a' w'∧M2 a' w'<M2 a w) Q) a w)
  (first:c.wp P (Exit.jump2 l1 J1 l2 J2 Q) a w):(Code.scope c).wp P Q a w:=by
 intro b k cs
 have hg1:gotoIn l1 (.inScope c::k)=some (.code rest1:: .inScope c::k):=by simp [gotoIn,hf1]
 have hg2:gotoIn l2 (.inScope c::k)=some (.code rest2:: .inScope c::k):=by simp [gotoIn,hf2]
 have key:∀n,(∀a w,M1 a w=n→J1 a w→∃e a' w',Q e a' w'∧Arrives P (lone (b.at a (.code rest1:: .inScope c::k)) cs w) b k cs e a' w')∧(∀a w,M2 a w=n→J2 a w→∃e a' w',Q e a' w'∧Arrives P (lone (b.at a (.code rest2:: .inScope c::k)) cs w) b k cs e a' w'):=by
  intro n
  induction n using Nat.strongRecOn with
  |_ n ih=>
   refine⟨fun a w hn hJ=> ?_,fun a w hn hJ=> ?_⟩
   ·obtain⟨e,a₁,w₁,hq,harr⟩:=pass1 a w hJ b (.inScope c::k) cs
    exact jZ28
   ·obtain⟨e,a₁,w₁,hq,harr⟩:=pass2 a w hJ b (.inScope c::k) cs
    exact jZ28
 obtain⟨e,a₁,w₁,hq,harr⟩:=first b (.inScope c::k) cs
 cases e with
 |normal=>exact⟨.normal,a₁,w₁,hq,.head step_scope (Steps.trans harr (.one step_inScope))⟩
 |exit id=>exact⟨.exit id,a₁,w₁,hq,fun k' hk=> .head step_scope (harr k' (by simp [exitTo,hk]))⟩
 |goto l'=>
  rcases hq with⟨rfl,hJ'⟩|⟨rfl,hJ'⟩
  ·obtain⟨e₂,a₂,w₂,hq₂,harr₂⟩:=(key _).1 a₁ w₁ rfl hJ'
   exact⟨e₂,a₂,w₂,hq₂,.of_steps (.head step_scope (harr _ hg1)) harr₂⟩
  ·obtain⟨e₂,a₂,w₂,hq₂,harr₂⟩:=(key _).2 a₁ w₁ rfl hJ'
   exact⟨e₂,a₂,w₂,hq₂,.of_steps (.head step_scope (harr _ hg2)) harr₂⟩
 |ret=>exact⟨_,a₁,w₁,hq,.of_steps (.one step_scope) harr⟩
 |panic ch=>exact⟨_,a₁,w₁,hq,.of_steps (.one step_scope) harr⟩
 |outgrown=>exact⟨_,a₁,w₁,hq,.of_steps (.one step_scope) harr⟩
theorem wp_jump2_mono{P:Program}{c:Code}{a:Act}{w:World}{l1 l2:Nat}{J1 J2 K1 K2:Act→World→Prop}{Q:Exit→Act→World→Prop}(h1:∀a w,J1 a w→K1 a w)(h2:∀a w,J2 a w→K2 a w)(h:c.wp P (Exit.jump2 l1 J1 l2 J2 Q) a w):c.wp P (Exit.jump2 l1 K1 l2 K2 Q) a w:=by
 refine Code.wp_mono ?_ h
 intro e a' w' h
 cases e with
 |goto k=>exact h.imp (fun h=>⟨h.1,h1 _ _ h.2⟩) (fun h=>⟨h.1,h2 _ _ h.2⟩)
 |_=>exact h
theorem wp_scope_back2{P:Program}{a:Act}{w:World}{Q:Exit→Act→World→Prop}{c rest1 rest2:Code}(l1 l2:Nat)(J1 J2:Act→World→Prop)(M1 M2:Act→World→Nat)(hf1:findLabel c l1=some (Code.skip.seq rest1))(hf2:findLabel c l2=some (Code.skip.seq rest2))
  (pass2:∀a w,J2 a w→rest2.wp P (Exit.jump2 l1 (fun a' w'=>J1 a' w'∧M1 a' w'<M2 a w) l2 (fun a' w'=>J2 a' w'∧M2 a' w'<M2 a w) Q) a w)
  (pass1:Hid (∀a w,J2 a w→rest2.wp P (Exit.jump2 l1 (fun a' w'=>J1 a' w'∧M1 a' w'<M2 a w) l2 (fun a' w'=>J2 a' w'∧M2 a' w'<M2 a w) Q) a w)→∀a w,J1 a w→rest1.wp P (Exit.jump2 l1 (fun a' w'=>J1 a' w'∧M1 a' w'<M1 a w) l2 (fun a' w'=>J2 a' w'∧M2 a' w'<M1 a w) Q) a w)
  (first:Hid (∀a w,J1 a w→rest1.wp P (Exit.jump2 l1 J1 l2 J2 Q) a w)→c.wp P (Exit.jump2 l1 J1 l2 J2 Q) a w):(Code.scope c).wp P Q a w:=by
 have h1:=pass1 (Lib.hid pass2)
 refine wp_scope_two l1 l2 J1 J2 M1 M2 hf1 hf2 (fun a w hJ=>wp_seq (wp_skip (h1 a w hJ))) (fun a w hJ=>wp_seq (wp_skip (pass2 a w hJ))) (first (Lib.hid fun a w hJ=>wp_jump2_mono (fun _ _ h=>h.1) (fun _ _ h=>h.1) (h1 a w hJ)))
def leapB(y:Int):Bool:=decide (y % 4=0)&&(decide (¬y % 100=0)||decide (y % 400=0))
def mlen(y m:Int):Int:=if m=2 then(if leapB y=true then 29 else 28) else if m=4∨m=6∨m=9∨m=11 then 30 else if 1≤m∧m≤12 then 31 else 0
def ylen(y:Int):Int:=if leapB y=true then 366 else 365
def nY(y:Int):Int:= -135140+365*(y-1600)+(y-1600+3) / 4-(y-1600+99) / 100+(y-1600+399) / 400
theorem leapB_iff(y:Int):leapB y=true↔(y % 4=0∧(¬y % 100=0∨y % 400=0)):=by simp [leapB]
theorem nY_succ{y:Int}(_:1600≤y):nY (y+1)=nY y+ylen y:=by
 unfold nY ylen
 by_cases h:leapB y=true
 ·rw [if_pos h]
  have:=(leapB_iff y).1 h
  omega
 ·rw [if_neg h]
  have:¬(y % 4=0∧(¬y % 100=0∨y % 400=0)):=fun hh=>h ((leapB_iff y).2 hh)
  omega
theorem ylen_pos(y:Int):365≤ylen y∧ylen y≤366:=by unfold ylen;split<;>omega
theorem nY_add{y:Int}(h:1600≤y):∀k:Nat,nY y≤nY (y+k)
 |0=>by simp
 |k+1=>by
  have h1:=nY_add h k
  have h2:=nY_succ (y:=y+k) (by omega)
  have h3:=ylen_pos (y+k)
  rw [show y+((k+1:Nat):Int)=y+k+1 by omega]
  omega
theorem nY_mono{x y:Int}(h:1600≤x)(hxy:x≤y):nY x≤nY y:=by
 have:=nY_add h (y-x).toNat
 rwa [show x+((y-x).toNat:Int)=y by omega] at this
theorem nY_lt{x y:Int}(_:1600≤x)(hy:1600≤y)(hl:nY x<nY (y+1)):x≤y:=by
 by_cases h':y<x
 ·have:=nY_mono (x:=y+1) (y:=x) (by omega) (by omega);omega
 ·omega
def yrW(n:Int):Nat→Int→Int
 |0,y=>y
 |f+1,y=>if nY (y+1)≤n then yrW n f (y+1) else y
def yearF(n:Int):Int:=yrW n 8400 1600
theorem yrW_eq{n y:Int}(h1:nY y≤n)(h2:n<nY (y+1)):∀(f:Nat) (y0:Int),1600≤y0→y0≤y→y-y0≤f→yrW n f y0=y
 |0,y0,_,h4,h5=>by unfold yrW;omega
 |f+1,y0,h3,h4,h5=>by
  unfold yrW
  by_cases he:y0=y
  ·subst he;rw [if_neg (by omega)]
  ·have:=nY_mono (x:=y0+1) (y:=y) (by omega) (by omega)
   rw [if_pos (by omega)]
   exact yrW_eq h1 h2 f (y0+1) (by omega) (by omega) (by omega)
theorem yearF_eq {n y : Int} (h0 : 1600 ≤ y) (h1 : nY y ≤ n) (h2 : n < nY (y + 1)) (h3 : n ≤ 2932896) : yearF n = y ∧ y ≤ 9999 := by
  have h4 : y ≤ 9999 := nY_lt h0 (by omega) (by have : nY (9999 + 1) = 2932897 := by decide
                                                omega)
  exact ⟨yrW_eq h1 h2 8400 1600 (by omega) h0 (by omega), h4⟩
def moW(y:Int):Nat→Int→Int→Int×Int
 |0,m,r=>(m,r)
 |f+1,m,r=>if mlen y m≤r then moW y f (m+1) (r-mlen y m) else(m,r)
def cumT(y m:Int):Int:=if m≤2 then 31*(m-1) else(if leapB y=true then 1 else 0)+(if m=3 then 59 else if m=4 then 90 else if m=5 then 120 else if m=6 then 151 else if m=7 then 181 else if m=8 then 212 else if m=9 then 243 else if m=10 then 273 else if m=11 then 304 else if m=12 then 334 else 365)
theorem Co{y m:Int}(h1:1≤m)(h2:m≤12):cumT y (m+1)=cumT y m+mlen y m∧28≤mlen y m∧mlen y m≤31:=by
 obtain rfl|rfl|rfl|rfl|rfl|rfl|rfl|rfl|rfl|rfl|rfl|rfl:m=1∨m=2∨m=3∨m=4∨m=5∨m=6∨m=7∨m=8∨m=9∨m=10∨m=11∨m=12:=by omega
 all_goals (unfold cumT mlen;rcases leapB y<;>decide)
theorem cumT_end(y:Int):cumT y 13=ylen y:=by unfold cumT ylen;rcases leapB y<;>rfl
theorem cumT_one(y:Int):cumT y 1=0:=rfl
structure MoAt(y r:Int)(j:Nat)(q:Int):Prop where
 lo:1≤j
 hi:j≤12
 sum:q+cumT y j=r
 q0:0≤q
 eq:moW y 12 1 r=moW y (13-j) j q
theorem MoAt.start{y r:Int}(h0:0≤r):MoAt y r 1 r:=⟨by omega,by omega,by simp [cumT],h0,rfl⟩
theorem MoAt.next{y r:Int}{j:Nat}{q:Int}(h:MoAt y r j q)(hr:r<ylen y)(hq:mlen y j≤q):MoAt y r (j+1) (q-mlen y j):=by
 obtain⟨lo,hi,sum,q0,eq⟩:=h
 have hc:=(Co (y:=y) (m:=j) (by omega) (by omega)).1
 have hj:j≤11:=by
  rcases Nat.lt_or_ge 11 j with h|h
  ·exfalso
   obtain rfl:j=12:=by omega
   have:=cumT_end y
   rw [show((12:Nat):Int)+1=13 by rfl,this] at hc
   omega
  ·exact h
 refine⟨by omega,by omega,by rw [show((j+1:Nat):Int)=(j:Int)+1 by omega,hc];omega,by omega, ?_⟩
 rw [eq,show 13-j=(13-(j+1))+1 by omega]
 show(if mlen y j≤q then _ else _)=_
 rw [if_pos hq,show((j+1:Nat):Int)=(j:Int)+1 by omega]
theorem MoAt.done{y r:Int}{j:Nat}{q:Int}(h:MoAt y r j q)(hq:¬mlen y j≤q):moW y 12 1 r=((j:Int),q):=by
 rw [h.eq,show 13-j=(13-(j+1))+1 by have:=h.hi;omega]
 show(if mlen y j≤q then _ else _)=_
 rw [if_neg hq]
def dY(n:Int):Int:=yearF n
def dM(n:Int):Int:=(moW (yearF n) 12 1 (n-nY (yearF n))).1
def dD(n:Int):Int:=(moW (yearF n) 12 1 (n-nY (yearF n))).2+1
def dayIn(n:Int):Bool:=decide (-135140≤n∧n≤2932896)
theorem tm4{y:Int}(h:0≤y)(k:Int):y.tmod k=y % k:=Int.tmod_eq_emod_of_nonneg h
theorem dayLeap_any(y:Int)(h:0≤y)(w:World):Calls Tryz.prog 131 #[.int .i64 y] w fun e w'=>e= .returned (.bool (leapB y))∧w=w':=by
 have q4:=tm4 h 4
 have q100:=tm4 h 100
 have q400:=tm4 h 400
 by_cases h4:y % 4=0
 ·by_cases h100:y % 100=0
  ·by_cases h400:y % 400=0
   ·have hf:leapB y=true:=(leapB_iff y).2 ⟨h4,.inr h400⟩
    exact jZ68
   ·have hf:leapB y=false:=by rw [Bool.eq_false_iff];intro hh;have:=(leapB_iff y).1 hh;omega
    have b4:(y % 400==0)=false:=beq_eq_false_iff_ne.2 h400
    exact jZ68
  ·have hf:leapB y=true:=(leapB_iff y).2 ⟨h4,.inl h100⟩
   have b1:(y % 100 !=0)=true:=by simp [h100]
   exact jZ68
 ·have hf:leapB y=false:=by rw [Bool.eq_false_iff];intro hh;have:=(leapB_iff y).1 hh;omega
  have b4:(y % 4==0)=false:=beq_eq_false_iff_ne.2 h4
  exact jZ68
set_option maxHeartbeats 1600000
theorem dayLength_any(y m:Int)(h:0≤y)(h1:1≤m)(h2:m≤12)(w:World):Calls Tryz.prog 107 #[.int .i64 y,.int .i64 m] w fun e w'=>e= .returned (.int .i64 (mlen y m))∧w=w':=by
 have hlp:=dayLeap_any y h w
 obtain rfl|rfl|rfl|rfl|rfl|rfl|rfl|rfl|rfl|rfl|rfl|rfl:m=1∨m=2∨m=3∨m=4∨m=5∨m=6∨m=7∨m=8∨m=9∨m=10∨m=11∨m=12:=by omega
 ·have hm:mlen y 1=mlen y 1:=rfl
  exact jZ21
 ·rcases hb:leapB y with _|_
  ·rw [hb] at hlp
   have hf:mlen y 2=28:=by unfold mlen;rw [hb];rfl
   exact jZ72
  ·rw [hb] at hlp
   have hf:mlen y 2=29:=by unfold mlen;rw [hb];rfl
   exact jZ72
 ·have hm:mlen y 3=mlen y 3:=rfl
  exact jZ21
 ·have hm:mlen y 4=mlen y 4:=rfl
  exact jZ21
 ·have hm:mlen y 5=mlen y 5:=rfl
  exact jZ21
 ·have hm:mlen y 6=mlen y 6:=rfl
  exact jZ21
 ·have hm:mlen y 7=mlen y 7:=rfl
  exact jZ21
 ·have hm:mlen y 8=mlen y 8:=rfl
  exact jZ21
 ·have hm:mlen y 9=mlen y 9:=rfl
  exact jZ21
 ·have hm:mlen y 10=mlen y 10:=rfl
  exact jZ21
 ·have hm:mlen y 11=mlen y 11:=rfl
  exact jZ21
 ·have hm:mlen y 12=mlen y 12:=rfl
  exact jZ21
set_option maxHeartbeats 800000
theorem dayNewYear_any(y:Int)(h1:1600≤y)(h2:y≤100000)(w:World):Calls Tryz.prog 130 #[.int .i64 y] w fun e w'=>e= .returned (.int .i64 (nY y))∧w=w':=by
 have t4:(y-1600+3).tdiv 4=(y-1600+3) / 4:=Int.tdiv_eq_ediv_of_nonneg (by omega)
 have t100:(y-1600+99).tdiv 100=(y-1600+99) / 100:=Int.tdiv_eq_ediv_of_nonneg (by omega)
 have t400:(y-1600+399).tdiv 400=(y-1600+399) / 400:=Int.tdiv_eq_ediv_of_nonneg (by omega)
 have hf:nY y= -135140+365*(y-1600)+(y-1600+3) / 4-(y-1600+99) / 100+(y-1600+399) / 400:=rfl
 have Hf:=Lib.hid hf;clear hf
 go_enter Tryz.func130,Tryz.ntmps130
 go_wp2
 go_ret
 refine⟨?_,rfl⟩
 rw [Hf.out]
 rfl
end Go.Proofs.YthffbjldpfionaaGreat
namespace Go.Proofs.YthffbjldpfionaaGreat
open Go.RowKit
def cellInt(W:World)(B j:Nat):Int:=match W.cell? ⟨B,j,none⟩ with|some (.int _ n)=>n|_=>0
theorem Ay(w:World)(o:Obj){i:Nat}(h:i=w.heap.size):(w.alloc o).heap[i]?=some o:=by subst h;exact heap_alloc_new w o
theorem Ci{W:World}{B j:Nat}{n:Int}(h:W.cell? ⟨B,j,none⟩=some (.int .i64 n)):cellInt W B j=n:=by unfold cellInt;rw [h]
def ddFr(n:Int)(b:Nat)(u:Nat→Value):Act:={ tmps:= #[.int .i64 n,u 1,(.pointer (some ⟨b,0,none⟩)),u 3,(.pointer (some ⟨b+1,0,none⟩)),u 5,u 6,u 7,u 8,u 9,u 10,u 11,u 12,u 13,u 14,u 15,u 16,u 17,u 18,u 19,u 20,u 21,u 22,u 23,u 24,u 25,u 26,u 27,u 28,u 29,u 30,u 31,u 32,u 33,u 34,u 35,u 36,u 37,u 38,u 39,u 40,u 41,u 42,u 43,u 44,u 45,u 46,u 47,u 48,u 49,u 50,u 51,u 52,u 53,u 54,u 55],defers:= [] }
structure DdW(w:World)(y m d:Int)(W:World):Prop where
 kp:Keeps (fun _=>False) w W
 res:W.heap[w.heap.size]?=some (.cells #[.int .i64 0,.int .i64 0,.int .i64 0] 175 (0,0))
 box:W.heap[w.heap.size+1]?=some (.cells #[.int .i64 y,.int .i64 m,.int .i64 d] 175 (0,0))
def YrOk(n:Int):Prop:=1600≤yearF n∧yearF n≤9999∧nY (yearF n)≤n∧n<nY (yearF n+1)
def ddJ1(w:World)(n:Int)(a':Act)(W:World):Prop:=∃(y:Int) (u:Nat→Value),a'=ddFr n w.heap.size u∧DdW w y 1 1 W∧1600≤y∧y≤9999∧nY y≤n
def ddJ2(w:World)(n:Int)(a':Act)(W:World):Prop:=∃(j:Nat) (q:Int) (u:Nat→Value),a'=ddFr n w.heap.size u∧DdW w (yearF n) j (q+1) W∧MoAt (yearF n) (n-nY (yearF n)) j q∧YrOk n
theorem ddJ1.mk{w:World}{n:Int}{a':Act}{W:World}(y:Int)(h:a'=ddFr n w.heap.size (fun i=>a'.tmps.getD i undef))(hw:DdW w y 1 1 W)(h1:1600≤y)(h2:y≤9999)(h3:nY y≤n):ddJ1 w n a' W:=⟨y,_,h,hw,h1,h2,h3⟩
theorem ddJ2.mk{w:World}{n:Int}{a':Act}{W:World}(j:Nat)(q:Int)(h:a'=ddFr n w.heap.size (fun i=>a'.tmps.getD i undef))(hw:DdW w (yearF n) j (q+1) W)(hm:MoAt (yearF n) (n-nY (yearF n)) j q)(hy:YrOk n):ddJ2 w n a' W:=⟨j,q,_,h,hw,hm,hy⟩
section
variable {w W:World} {y m d:Int}
theorem DdW.set0(h:DdW w y m d W)(v:Int):DdW w v m d (W.setCell ⟨w.heap.size+1,0,none⟩ (.int .i64 v)):=
 ⟨h.kp.trans (Keeps.setCell _ _ _ (.inr (by simp))),Ad h.res (Keeps.setCell (S:=fun i=>i=w.heap.size+1) _ _ _ rfl) (by simp),(heap_setCell_same _ _ 0 _ _ _ h.box).trans rfl⟩
theorem DdW.set1(h:DdW w y m d W)(v:Int):DdW w y v d (W.setCell ⟨w.heap.size+1,1,none⟩ (.int .i64 v)):=
 ⟨h.kp.trans (Keeps.setCell _ _ _ (.inr (by simp))),Ad h.res (Keeps.setCell (S:=fun i=>i=w.heap.size+1) _ _ _ rfl) (by simp),(heap_setCell_same _ _ 1 _ _ _ h.box).trans rfl⟩
theorem DdW.set2(h:DdW w y m d W)(v:Int):DdW w y m v (W.setCell ⟨w.heap.size+1,2,none⟩ (.int .i64 v)):=
 ⟨h.kp.trans (Keeps.setCell _ _ _ (.inr (by simp))),Ad h.res (Keeps.setCell (S:=fun i=>i=w.heap.size+1) _ _ _ rfl) (by simp),(heap_setCell_same _ _ 2 _ _ _ h.box).trans rfl⟩
theorem DdW.keep{W':World}(h:DdW w y m d W)(hk:Keeps (fun _=>False) W W'):DdW w y m d W':=⟨h.kp.nt hk,Ad h.res hk (by simp),Ad h.box hk (by simp)⟩
end
def ddS(b:Nat)(y d:Int)(W:World):Prop:=W.cell? ⟨b,0,none⟩=some (.int .i64 y)∧W.cell? ⟨b,2,none⟩=some (.int .i64 d)∧W.frozen? ⟨b,2,none⟩=false
set_option maxRecDepth 100000
set_option maxHeartbeats 1600000
theorem dayDate_any (n : Int) (w : World) (hn : -9000000000000000000 ≤ n ∧ n ≤ 9000000000000000000) : Calls Tryz.prog 106 #[.int .i64 n] w fun e w' => e = .returned (.tuple #[.agg (if dayIn n = true then #[.int .i64 (dY n), .int .i64 (dM n), .int .i64 (dD n)] else #[.int .i64 0, .int .i64 0, .int .i64 0]), .int .i64 (if dayIn n = true then 0 else 10)]) ∧ Keeps (fun _ => False) w w' := by
  by_cases hin : -135140 ≤ n ∧ n ≤ 2932896
  · have hd : dayIn n = true := by simp [dayIn, hin]
    rw [if_pos hd, if_pos hd]
    obtain ⟨rY, hrY⟩ : ∃ a, dY n = a := ⟨_, rfl⟩
    obtain ⟨rM, hrM⟩ : ∃ a, dM n = a := ⟨_, rfl⟩
    obtain ⟨rD, hrD⟩ : ∃ a, dD n = a := ⟨_, rfl⟩
    rw [hrY, hrM, hrD]
    obtain ⟨hn1, hn2⟩ := hin
    obtain ⟨Hd, HrY, HrM, HrD⟩ := hid4 hd hrY hrM hrD; clear hrD hrM hrY hd
    go_enter Tryz.func106, Tryz.ntmps106
    go_wp2
    refine wp_scope_back2 0 1 (ddJ1 w n) (ddJ2 w n) (fun _ W => (20000 - cellInt W (w.heap.size + 1) 0).toNat + 100) (fun _ W => (20 - cellInt W (w.heap.size + 1) 1).toNat) rfl rfl ?_ ?_ ?_
    · rintro a' W ⟨j, q, u, rfl, hw, hm, hy⟩
      unfold ddFr
      obtain ⟨y, hyy⟩ : ∃ y, yearF n = y := ⟨_, rfl⟩
      unfold YrOk at hy
      rw [hyy] at hw hm hy
      obtain ⟨h1, h2, h3, h4⟩ := hy
      have hlo := hm.lo
      have hhi := hm.hi
      have hq0 := hm.q0
      have hsum := hm.sum
      have hsucc := nY_succ h1
      have hyl := ylen_pos y
      have hml := (Co (y := y) (m := j) (by omega) (by omega)).2
      have hcall := fun W => dayLength_any y j (by omega) (by omega) (by omega) W
      obtain ⟨l, hl⟩ : ∃ l, mlen y j = l := ⟨_, rfl⟩
      rw [hl] at hcall hml
      have hcum : 0 ≤ cumT y j := by unfold cumT; split <;> (try split) <;> omega
      have c0 := Aa hw.box 0
      have c1 := Aa hw.box 1
      have c2 := Aa hw.box 2
      have f0 := Ab hw.box 0
      have f1 := Ab hw.box 1
      have f2 := Ab hw.box 2
      have bl := lt_of_block hw.box
      have e0 := Ab hw.res 0
      have e1 := Ab hw.res 1
      have e2 := Ab hw.res 2
      have d0 := Aa hw.res 0
      have d1 := Aa hw.res 1
      have d2 := Aa hw.res 2
      have dl := lt_of_block hw.res
      have hq1 : q ≤ 400 := by omega
      by_cases hgo : l ≤ q
      · have hnx := hm.next (by omega) (by rw [hl]; exact hgo)
        rw [hl] at hnx
        obtain ⟨Hw, Hm, Hcall, Hl, Hyy, Hnx, Hsum, Hsucc, Hcum⟩ := hid9 hw hm hcall hl hyy hnx hsum hsucc hcum; clear hcum hsucc hsum hnx hyy hl hcall hm hw
        go_wp2_with fail
        refine (Hcall.out W).mono ?_
        rintro e w1 ⟨rfl, rfl⟩
        go_wp2_with fail
        go_step3
        go_wp2
        have hd2 : DdW w (yearF n) ((j + 1 : Nat) : Int) (q - l + 1) ((W.setCell ⟨w.heap.size + 1, 2, none⟩ (.int .i64 (q + 1 - l))).setCell ⟨w.heap.size + 1, 1, none⟩ (.int .i64 ((j : Int) + 1))) := by
          rw [Hyy.out, show q - l + 1 = q + 1 - l by omega, show ((j + 1 : Nat) : Int) = (j : Int) + 1 by omega]
          exact (Hw.out.set2 _).set1 _
        refine jump2_2 ⟨ddJ2.mk (j + 1) (q - l) rfl hd2 (by rw [Hyy.out]; exact Hnx.out) (by unfold YrOk; rw [Hyy.out]; exact ⟨h1, h2, h3, h4⟩), ?_⟩
        have e1 := Ci (Aa hd2.box 1)
        have e2 := Ci (Aa Hw.out.box 1)
        show (20 - cellInt _ _ 1).toNat < (20 - cellInt _ _ 1).toNat
        rw [e1, e2]
        omega
      · have hdone := hm.done (by rw [hl]; exact hgo)
        obtain ⟨Hw, Hm, Hcall, Hl, Hyy, Hdone, Hsum, Hsucc, Hcum⟩ := hid9 hw hm hcall hl hyy hdone hsum hsucc hcum; clear hcum hsucc hsum hdone hyy hl hcall hm hw
        go_wp2_with fail
        refine (Hcall.out W).mono ?_
        rintro e w1 ⟨rfl, rfl⟩
        go_wp2
        refine jump2_ret ?_
        obtain rfl : rY = y := HrY.out.symm.trans Hyy.out
        obtain rfl : rM = j := HrM.out.symm.trans (by unfold dM; rw [Hyy.out, Hdone.out])
        obtain rfl : rD = q + 1 := HrD.out.symm.trans (by unfold dD; rw [Hyy.out, Hdone.out])
        have hb3 : (((W.setCell ⟨w.heap.size, 0, none⟩ (.int .i64 rY)).setCell ⟨w.heap.size, 1, none⟩ (.int .i64 (j : Int))).setCell ⟨w.heap.size, 2, none⟩ (.int .i64 (q + 1))).heap[w.heap.size]? = some (.cells #[.int .i64 rY, .int .i64 (j : Int), .int .i64 (q + 1)] 175 (0, 0)) := (heap_setCell_same _ _ 2 _ _ _ ((heap_setCell_same _ _ 1 _ _ _ ((heap_setCell_same _ _ 0 _ _ _ Hw.out.res).trans rfl)).trans rfl)).trans rfl
        have r0 := Aa hb3 0
        have r1 := Aa hb3 1
        have r2 := Aa hb3 2
        clear d0 d1 d2 c0 c1 c2
        exact bodyPost_ret (v := .tuple #[.agg #[.int .i64 rY, .int .i64 (j : Int), .int .i64 (q + 1)], .int .i64 0]) (by simp [results, Tryz.results106, go_sem, r0, r1, r2]) rfl ⟨rfl, Hw.out.kp.trans ((((Keeps.setCell (S := fun i => w.heap.size ≤ i) _ _ _ (Nat.le_refl _)).trans (Keeps.setCell _ _ _ (.inl (Nat.le_refl _)))).trans (Keeps.setCell _ _ _ (.inl (Nat.le_refl _)))).mono fun i _ h => .inr h)⟩
    · intro hp2
      rintro a' W ⟨y, u, rfl, hw, h1, h2, h3⟩
      unfold ddFr
      have hcall := fun W => dayNewYear_any (y + 1) (by omega) (by omega) W
      have hcall2 := fun W => dayNewYear_any y h1 (by omega) W
      obtain ⟨z, hz⟩ : ∃ z, nY (y + 1) = z := ⟨_, rfl⟩
      obtain ⟨v, hv⟩ : ∃ v, nY y = v := ⟨_, rfl⟩
      have hsucc := nY_succ h1
      have hyl := ylen_pos y
      have c0 := Aa hw.box 0
      have c1 := Aa hw.box 1
      have c2 := Aa hw.box 2
      have f0 := Ab hw.box 0
      have f1 := Ab hw.box 1
      have f2 := Ab hw.box 2
      have bl := lt_of_block hw.box
      by_cases hgo : nY (y + 1) ≤ n
      · have hy9 : y + 1 ≤ 9999 := nY_lt (by omega) (by omega) (by have : nY (9999 + 1) = 2932897 := by decide
                                                                   omega)
        have h3' := hgo
        rw [hz] at hcall hgo
        rw [hv] at hcall2
        obtain ⟨Hw, Hcall, Hcall2, Hz, Hv, H3', H3, Hsucc⟩ := hid8 hw hcall hcall2 hz hv h3' h3 hsucc; clear hsucc h3 h3' hv hz hcall2 hcall hw
        go_wp2_with fail
        refine (Hcall.out W).mono ?_
        rintro e w1 ⟨rfl, rfl⟩
        go_wp2_with fail
        go_step3
        go_wp2
        refine jump2_1 ⟨ddJ1.mk (y + 1) rfl (Hw.out.set0 _) (by omega) (by omega) H3'.out, ?_⟩
        have e1 := Ci (Aa (Hw.out.set0 (y + 1)).box 0)
        have e2 := Ci (Aa Hw.out.box 0)
        show (20000 - cellInt _ _ 0).toNat + 100 < (20000 - cellInt _ _ 0).toNat + 100
        rw [e1, e2]
        omega
      · obtain ⟨hyf, _⟩ := yearF_eq h1 h3 (by omega) hn2
        have hok : YrOk n := by unfold YrOk; rw [hyf]; exact ⟨h1, h2, h3, by omega⟩
        have hn0 : 0 ≤ n - v := by omega
        have hw1 : IntKind.i64.wrap (n - v) = n - v := IntWalk.i64_in _ ⟨by omega, by omega⟩
        have hw2 : IntKind.i64.wrap (1 + (n - v)) = 1 + (n - v) := IntWalk.i64_in _ ⟨by omega, by omega⟩
        rw [hz] at hcall hgo
        rw [hv] at hcall2
        have hS : ∀ W', Keeps (fun _ => False) W W' → ddS (w.heap.size + 1) y 1 W' := fun W' hk => ⟨Aa (Ad hw.box hk (by simp)) 0, Aa (Ad hw.box hk (by simp)) 2, Ab (Ad hw.box hk (by simp)) 2⟩
        obtain ⟨Hw, Hcall, Hcall2, Hz, Hv, H3, Hyf, Hok, Hsucc⟩ := hid9 hw hcall hcall2 hz hv h3 hyf hok hsucc; clear hsucc hok hyf h3 hv hz hcall2 hcall hw; have HS := Lib.hid hS; clear hS
        go_wp2_with fail
        refine (Hcall.out W).mono ?_
        rintro e w1 ⟨rfl, rfl⟩
        go_wp2_with fail
        refine Cy (ddS (w.heap.size + 1) y 1) 9 (.take 0 (.take 1 (.take 2 (.take 3 (.take 4 (.take 5 (.take 6 (.take 7 (.take 8 (.move 9 .done)))))))))) (by kernel_rfl) (by kernel_rfl) ?_ ?_
        · exact HS.out _ (Keeps.drew _)
        intro w2 hs2 hk2
        repeat (first
          | (refine Ai rfl (by rfl) ?_; try simp only [Act.put, List.setIfInBounds_toArray, List.set_cons_zero, List.set_cons_succ])
          | (refine Af rfl (by rfl) ?_; try simp only [Act.put, List.setIfInBounds_toArray, List.set_cons_zero, List.set_cons_succ])
          | (refine Ah (v := ?_) rfl (by rfl) ?_ ?_; rotate_left; (· intro w' hSw; unfold ddS at hSw; go_simp; (try with_reducible rfl)); rotate_right; try simp only [Act.put, List.setIfInBounds_toArray, List.set_cons_zero, List.set_cons_succ]))
        refine mix_pure (v := ?_) rfl (by rfl) ?_ ?_ ?_ ?_ ?_
        rotate_left 3
        · intro w' hSw; unfold ddS at hSw; go_simp; (first | done | (constructor <;> with_reducible rfl) | with_reducible rfl)
        · intro w' hSw; exact (Hcall2.out _)
        rotate_right 3
        try simp only [Act.put, List.setIfInBounds_toArray, List.set_cons_zero, List.set_cons_succ]
        repeat (first
          | (refine Ai rfl (by rfl) ?_; try simp only [Act.put, List.setIfInBounds_toArray, List.set_cons_zero, List.set_cons_succ])
          | (refine Af rfl (by rfl) ?_; try simp only [Act.put, List.setIfInBounds_toArray, List.set_cons_zero, List.set_cons_succ])
          | (refine Ah (v := ?_) rfl (by rfl) ?_ ?_; rotate_left; (· intro w' hSw; unfold ddS at hSw; go_simp; (try with_reducible rfl)); rotate_right; try simp only [Act.put, List.setIfInBounds_toArray, List.set_cons_zero, List.set_cons_succ]))
        have hs3 := hs2
        unfold ddS at hs3
        obtain ⟨k0, k2, k3⟩ := hs3
        have k4 := Ag k2
        refine Cr rfl (fun K hK => ?_)
        go_simp
        refine hK.out _ _ ?_
        clear hK K
        try simp only [Act.put, List.setIfInBounds_toArray, List.set_cons_zero, List.set_cons_succ]
        refine Aw ?_
        have hw3 := (Hw.out.keep hk2).set2 (1 + (n - v))
        have hd2 : DdW w (yearF n) ((1 : Nat) : Int) (n - v + 1) (w2.setCell ⟨w.heap.size + 1, 2, none⟩ (.int .i64 (1 + (n - v)))) := by
          rw [Hyf.out, show n - v + 1 = 1 + (n - v) by omega]; exact hw3
        have hmo : MoAt (yearF n) (n - nY (yearF n)) 1 (n - v) := by rw [Hyf.out, Hv.out]; exact MoAt.start hn0
        obtain ⟨Hd2, Hmo, Hw3⟩ := hid3 hd2 hmo hw3; clear hw3 hmo hd2
        clear hs2 hk2 k0 k2 k3 k4
        go_wp2_with fail
        go_step3
        rename_i hK
        refine hK _ _ ?_
        refine wp_jump2_mono ?_ ?_ (hp2.out _ _ (ddJ2.mk 1 (n - v) rfl Hd2.out Hmo.out Hok.out))
        · intro a' w' h
          refine ⟨h.1, Nat.lt_of_lt_of_le h.2 ?_⟩
          have e1 := Ci (Aa Hd2.out.box 1)
          show (20 - cellInt _ _ 1).toNat ≤ (20000 - cellInt _ _ 0).toNat + 100
          rw [e1]; omega
        · intro a' w' h
          refine ⟨h.1, Nat.lt_of_lt_of_le h.2 ?_⟩
          have e1 := Ci (Aa Hd2.out.box 1)
          show (20 - cellInt _ _ 1).toNat ≤ (20000 - cellInt _ _ 0).toNat + 100
          rw [e1]; omega
    · intro hp1
      go_wp2_with fail
      go_step3
      rename_i hK
      refine hK _ _ ?_
      refine hp1.out _ _ ?_
      refine ddJ1.mk (1600 + (n + 135140) / 366) rfl ⟨by (repeat (first | exact Keeps.refl _ _ | exact Keeps.alloc _ _ | exact Keeps.drew _ | exact Keeps.drewN _ _ | refine Keeps.Ap ?_ | refine Keeps.Al ?_ | refine Keeps.Ae ?_)), Au (heap_alloc_new w _) _, Ay _ _ (by simp)⟩ (by omega) (by omega) (by unfold nY; omega)
  · have hd : dayIn n = false := by simp [dayIn]; omega
    have hdd : ¬ dayIn n = true := by rw [hd]; decide
    rw [if_neg hdd, if_neg hdd]
    have hc : n < -135140 ∨ 2932896 < n := by omega
    clear hin
    obtain ⟨Hd, Hdd⟩ := hid2 hd hdd; clear hdd hd
    go_enter Tryz.func106, Tryz.ntmps106
    go_wp2
    refine wp_scope_ahead2 0 1 rfl rfl ?_
    rcases hc with hc | hc
    · go_wp2
      refine jump2_ret ?_
      exact bodyPost_ret (v := .tuple #[.agg #[.int .i64 0, .int .i64 0, .int .i64 0], .int .i64 10]) (by simp [results, Tryz.results106, go_sem]) rfl ⟨rfl, by (repeat (first | exact Keeps.refl _ _ | exact Keeps.alloc _ _ | exact Keeps.drew _ | exact Keeps.drewN _ _ | refine Keeps.Ap ?_ | refine Keeps.Al ?_ | refine Keeps.Ae ?_))⟩
    · have hc2 : ¬ n < -135140 := by omega
      go_wp2
      refine jump2_ret ?_
      exact bodyPost_ret (v := .tuple #[.agg #[.int .i64 0, .int .i64 0, .int .i64 0], .int .i64 10]) (by simp [results, Tryz.results106, go_sem]) rfl ⟨rfl, by (repeat (first | exact Keeps.refl _ _ | exact Keeps.alloc _ _ | exact Keeps.drew _ | exact Keeps.drewN _ _ | refine Keeps.Ap ?_ | refine Keeps.Al ?_ | refine Keeps.Ae ?_))⟩
end Go.Proofs.YthffbjldpfionaaGreat
namespace Go.Proofs.YthffbjldpfionaaGreat
open Go.RowKit
theorem haltD{p:Prop}(h:Hid p):p:=h.out
theorem info_tInt64:(Tryz.prog.info? 2).map (fun i=>(i.zero,i.size,i.bytes))=some (some (.int .i64 0),1,8):=by kernel_rfl
def badM(v:Int):Bool:= !moneyP v
set_option maxRecDepth 100000
set_option maxHeartbeats 400000
theorem fallMay1_any(v:Int)(w:World):Calls Tryz.prog 170 #[.int .i64 v] w fun e w'=>e= .returned (.bool (badM v))∧w=w':=by
 by_cases h1:v<0
 ·have hf:badM v=true:=by simp [badM,moneyP,h1]
  exact jZ91
 ·by_cases h2:1000000000000000<v
  ·have hf:badM v=true:=by simp [badM,moneyP];omega
   exact jZ91
  ·have hf:badM v=false:=by simp [badM,moneyP];omega
   exact jZ91
theorem any_take_snoc{q:Int→Bool}{L:List Int}{k:Nat}{x:Int}(h:L[k]?=some x):(L.take (k+1)).any q=((L.take k).any q||q x):=by rw [take_snoc' h,List.any_append];simp
theorem any_of_get{q:Int→Bool}{L:List Int}{k:Nat}{x:Int}(h:L[k]?=some x)(hx:q x=true):L.any q=true:=List.any_eq_true.2 ⟨x,List.mem_of_getElem? h,hx⟩
set_option maxHeartbeats 800000
theorem indexFall(ad:Option Addr)(cap:Nat)(L:List Int)(w:World)(hr:Reads w 1 (.slice ad L.length cap) L.length (L.flatMap i64c))(hl:L.length≤1000):
  Calls Tryz.prog 157 #[.slice ad L.length cap,.func (.func 170) #[] #[]] w fun e w'=>∃r:Int,e= .returned (.int .i64 r)∧decide (0≤r)=L.any badM∧w=w':=by
 have Hr:=Lib.hid hr;clear hr
 go_enter Tryz.func157,Tryz.ntmps157
 go_wp2_with fail
 go_loop [8] (fun c=>∃j:Nat,j≤L.length∧c= .int .i64 (j:Nat)∧(L.take j).any badM=false) (fun c=>L.length-(intOf c).toNat)
 case atStart=>exact⟨0,Nat.zero_le _,rfl,rfl⟩
 case round=>
  obtain⟨j,hj,rfl,hok⟩:=hrel
  by_cases hjl:j<L.length
  ·obtain⟨x,hx⟩:=Av hjl
   obtain⟨g,o,rfl,x0⟩:=Hr.out.int hx
   have hsn:=any_take_snoc (q:=badM) hx
   rw [hok] at hsn
   have hcl:=fun W=>fallMay1_any x W
   rcases m1:badM x with _|_
   ·have hok':(L.take (j+1)).any badM=false:=by rw [hsn,m1];rfl
    rw [m1] at hcl
    obtain⟨Hsn,Hx,Hok,Hok',Hcl⟩:=hid5 hsn hx hok hok' hcl;clear hcl hok' hok hx hsn
    go_wp2_with (go_at_call 170;((with_reducible refine(Hcl.out _).mono ?_);rintro e w1 ⟨rfl,rfl⟩))
    exact jZ43
   ·have hf:=any_of_get (q:=badM) hx m1
    have hj0:decide ((0:Int)≤(j:Int))=true:=by simp
    rw [m1] at hcl
    obtain⟨Hf,Hsn,Hx,Hj0,Hcl⟩:=hid5 hf hsn hx hj0 hcl;clear hcl hj0 hx hsn hf
    go_wp2_with (go_at_call 170;((with_reducible refine(Hcl.out _).mono ?_);rintro e w1 ⟨rfl,rfl⟩))
    exact jZ95
  ·exact jZ29
set_option maxHeartbeats 400000
theorem containsFall(ad:Option Addr)(cap:Nat)(L:List Int)(w:World)(hr:Reads w 1 (.slice ad L.length cap) L.length (L.flatMap i64c))(hl:L.length≤1000):
  Calls Tryz.prog 140 #[.slice ad L.length cap,.func (.func 170) #[] #[]] w fun e w'=>e= .returned (.bool (L.any badM))∧w=w':=by
 have Hr:=Lib.hid hr;clear hr
 go_enter Tryz.func140,Tryz.ntmps140
 go_wp2_with (go_at_call 157;refine(indexFall _ _ L _ Hr.out hl).mono ?_;rintro e w1 ⟨r,rfl,hd,rfl⟩;have Hd:=Lib.hid hd;clear hd)
 exact jZ88
theorem fallMay_any(ad:Option Addr)(cap:Nat)(L:List Int)(w:World)(hr:Reads w 1 (.slice ad L.length cap) L.length (L.flatMap i64c))(hl:L.length≤1000):
  Calls Tryz.prog 158 #[.slice ad L.length cap] w fun e w'=>e= .returned (.bool (L.all moneyP))∧w=w':=by
 have hc:=containsFall ad cap L w hr hl
 have he:L.any badM= !(L.all moneyP):=by rw [List.all_eq_not_any_not];simp only [Bool.not_not];rfl
 rw [he] at hc
 obtain⟨Hr,Hc⟩:=hid2 hr hc;clear hc hr
 go_enter Tryz.func158,Tryz.ntmps158
 go_wp2_with fail
 refine Hc.out.mono ?_
 rintro e w1 ⟨rfl,rfl⟩
 go_wp2
 go_ret
 exact⟨by simp,rfl⟩
def RowZ(W:World)(e:TypeId)(g n cap:Nat)(O:List Int):Prop:=W.ownsRow 0 e 1 (.slice (some ⟨g,0,none⟩) n cap) n (O.flatMap i64c)∧O.length=n
theorem RowZ.cell{W:World}{e:TypeId}{g n cap:Nat}{O:List Int}(h:RowZ W e g n cap O){k:Nat}{x:Int}(hx:O[k]?=some x):W.cell? ⟨g,k,none⟩=some (.int .i64 x):=by
 obtain⟨h,rfl⟩:=h
 have:=Bi Cc h hx 0 (by decide)
 exact jZ83
theorem RowZ.free{W:World}{e:TypeId}{g n cap:Nat}{O:List Int}(h:RowZ W e g n cap O)(j:Nat):W.frozen? ⟨g,j,none⟩=false:=by
 exact jZ41
theorem RowZ.set{W:World}{e:TypeId}{g n cap:Nat}{O:List Int}(h:RowZ W e g n cap O){k:Nat}(hk:k<n)(x:Int):RowZ (W.setCell ⟨g,k,none⟩ (.int .i64 x)) e g n cap (O.set k x):=by
 exact jZ66
theorem RowZ.keep{W W':World}{e:TypeId}{g n cap:Nat}{O:List Int}(h:RowZ W e g n cap O)(hk:Keeps (fun _=>False) W W'):RowZ W' e g n cap O:=⟨h.1.of_keeps hk,h.2⟩
theorem RowZ.lt{W:World}{e:TypeId}{g n cap:Nat}{O:List Int}(h:RowZ W e g n cap O):g<W.heap.size:=Bu h.1 rfl
theorem RowZ.reads{W:World}{e:TypeId}{g n cap:Nat}{O:List Int}(h:RowZ W e g n cap O):Reads W 1 (.slice (some ⟨g,0,none⟩) n cap) n (O.flatMap i64c):=Reads.Bh h.1
theorem made_ints(n:Nat):(madeCells (Value.int .i64 0).cells n).toList=(List.replicate n (0:Int)).flatMap i64c:=by
 have hL:((List.replicate n (0:Int)).flatMap i64c).length=n:=by rw [Dl Cc];simp
 have hM:(madeCells (Value.int .i64 0).cells n).toList.length=n:=by simp [madeCells]
 apply List.ext_getElem?
 intro i
 by_cases h:i<n
 ·have h2:((List.replicate n (0:Int)).flatMap i64c)[i]?=some (.int .i64 0):=by
   have:=flat_get Cc (L:=List.replicate n (0:Int)) (k:=i) (j:=0) (x:=0) (by simp [h]) (by decide)
   exact jZ83
  rw [h2]
  simp [madeCells,Value.cells,h,Nat.mod_one]
 ·rw [List.getElem?_eq_none (by omega),List.getElem?_eq_none (by omega)]
theorem RowZ.made(w:World)(e:TypeId)(n:Nat)(hn:n≤maxLen):RowZ (w.alloc (.cells (madeCells (Value.int .i64 0).cells n) e)) e w.heap.size n n (List.replicate n 0):=by
 have hL:((List.replicate n (0:Int)).flatMap i64c).length=n*1:=by rw [Dl Cc];simp
 refine⟨⟨hL,.inr ⟨_,_,_,rfl,Nat.zero_le _,heap_alloc_new w _,Nat.le_refl _,hn,by simp [madeCells], ?_⟩⟩,by simp⟩
 rw [made_ints,List.take_of_length_le (by rw [hL];exact Nat.le_refl _)]
def inFr(vB vO:Value)(a:Int)(g n j:Nat)(u:Nat→Value):Act:={ tmps:= #[vB,vO,.int .i64 a,u 3,u 4,u 5,u 6,u 7,.slice (some ⟨g,0,none⟩) n n,.int .i64 ((j:Nat):Int),u 10,u 11,u 12,u 13,u 14,u 15,u 16,u 17,u 18,u 19,u 20,u 21,u 22,u 23,u 24,u 25,u 26,u 27,u 28,u 29,u 30,u 31,u 32,u 33,u 34,u 35,u 36,u 37,u 38,u 39,u 40,u 41],defers:= [] }
structure InAt(B O:List Int)(a00:Int)(w:World)(g j:Nat)(out:List Int)(a:Int)(W:World):Prop where
 jl:j≤O.length
 a0:0≤a
 a1:a≤1000000000000000
 row:RowZ W 2 g B.length B.length out
 eq:intoL B O a00=intoS B (O.drop j) (out,a)
 kp:Keeps (fun _=>False) w W
 gg:w.heap.size≤g
def inJ(B O:List Int)(a0:Int)(w:World)(vB vO:Value)(n:Nat)(a':Act)(W:World):Prop:=∃(g j:Nat) (out:List Int) (a:Int) (u:Nat→Value),a'=inFr vB vO a g n j u∧InAt B O a0 w g j out a W
theorem inJ.mk{B O:List Int}{a0:Int}{w:World}{vB vO:Value}{n:Nat}{a':Act}{W:World}(g j:Nat)(out:List Int)(a:Int)(h:a'=inFr vB vO a g n j (fun i=>a'.tmps.getD i undef))(hi:InAt B O a0 w g j out a W):inJ B O a0 w vB vO n a' W:=⟨g,j,out,a,_,h,hi⟩
def IntoPost(r:List Int×Int)(w:World)(e:Ending)(w':World):Prop:=∃g,e= .returned (.tuple #[.slice (some ⟨g,0,none⟩) r.1.length r.1.length,.int .i64 r.2])∧RowZ w' 2 g r.1.length r.1.length r.1∧Keeps (fun _=>False) w w'∧w.heap.size≤g
set_option maxHeartbeats 1600000
theorem fallInto0_any(B O:List Int)(a:Int)(adB adO:Option Addr)(cB cO:Nat)(w:World)(hB:Reads w 1 (.slice adB B.length cB) B.length (B.flatMap i64c))(hO:Reads w 1 (.slice adO O.length cO) O.length (O.flatMap i64c))(hm:∀x∈B,0≤x∧x≤1000000000000000)(ha:0≤a∧a≤1000000000000000)
  (hok:∀k∈O,1≤k∧k≤B.length) (hl:B.length≤1000) (hl2:O.length≤1000):Calls Tryz.prog 159 #[.slice adB B.length cB,.slice adO O.length cO,.int .i64 a] w (IntoPost (intoL B O a) w):=by
 obtain⟨i0,hi,hi0,hi1,hi2⟩:=info_parts info_tInt64
 have hrl:=Cj B O a
 obtain⟨n,hn⟩:∃n,B.length=n:=⟨_,rfl⟩
 obtain⟨m,hmO⟩:∃m,O.length=m:=⟨_,rfl⟩
 obtain⟨r,hr⟩:∃r,intoL B O a=r:=⟨_,rfl⟩
 rw [hn] at hB hok hl hrl⊢
 rw [hmO] at hO hl2⊢
 rw [hr] at hrl⊢
 have hmk:=fun(W:World)=>run_makeSlice (P:=Tryz.prog) W 32 2 i0 (.int .i64 0) Tryz.underlying32 hi hi0 .i64 .i64 (n:Int) (n:Int) (by omega) (by omega) (by rw [hi1];omega) (by rw [hi2];omega) (by omega)
 simp only [Int.toNat_natCast,hi1,Nat.mul_one] at hmk
 obtain⟨Z,hZ⟩:∃Z,Z=madeCells (Value.int .i64 0).cells n:=⟨_,rfl⟩
 rw [←hZ] at hmk
 obtain⟨ha0,ha1⟩:=ha
 obtain⟨HB,HO,Hm,Hok,Hn,HmO,Hr,Hrl,Hi⟩:=hid9 hB hO hm hok hn hmO hr hrl hi;clear hi hrl hr hmO hn hok hm hO hB;obtain⟨Hi0,Hi1,Hi2,HZ⟩:=hid4 hi0 hi1 hi2 hZ;clear hZ hi2 hi1 hi0
 go_enter Tryz.func159,Tryz.ntmps159
 go_wp2_with fail
 refine Cs 0 (inJ B O a w (.slice adB n cB) (.slice adO m cO) n) (fun a' _=>m-slotNatR 9 a') rfl ?_ ?_
 ·rintro a' W ⟨g,j,out,b,u,rfl,hat⟩
  unfold inFr
  have hjl:=hat.jl
  have hb0:=hat.a0
  have hb1:=hat.a1
  have hrow:=hat.row
  rw [Hn.out] at hrow
  rw [HmO.out] at hjl
  by_cases hlt:j<m
  ·have hltI:(j:Int)<(m:Int):=by omega
   obtain⟨k,hk⟩:=Av (L:=O) (k:=j) (by rw [HmO.out];exact hlt)
   obtain⟨k1,k2⟩:=Hok.out k (List.mem_of_getElem? hk)
   obtain⟨i,hi⟩:∃i:Nat,(i:Int)=k-1:=⟨(k-1).toNat,by omega⟩
   obtain⟨x,hx⟩:=Av (L:=B) (k:=i) (by rw [Hn.out];omega)
   obtain⟨x1,x2⟩:=Hm.out x (List.mem_of_getElem? hx)
   obtain⟨gO,oO,he,hcO⟩:=(HO.out.keeps hat.kp (by simp)).int (k:= .i64) hk
   subst he
   obtain⟨gB,oB,he,hcB⟩:=(HB.out.keeps hat.kp (by simp)).int (k:= .i64) hx
   subst he
   obtain⟨y,hy⟩:=Av (L:=out) (k:=i) (by rw [hrow.2];omega)
   have cy:=hrow.cell hy
   have fy:=hrow.free i
   have lO:=Ag hcO
   have lB:=Ag hcB
   have lg:=hrow.lt
   have q1:(0:Int)≤k-1:=by omega
   have q2:k-1<(n:Int):=by omega
   have q3:(k-1).toNat=i:=by omega
   have q4:IntKind.i64.wrap (k-1)=k-1:=IntWalk.i64_in _ ⟨by omega,by omega⟩
   have hstep:intoS B (O.drop j) (out,b)=intoS B (O.drop (j+1)) (out.set i (minI b x),b-minI b x):=by
    obtain⟨h1,h2⟩:=List.getElem?_eq_some_iff.1 hk
    rw [List.drop_eq_getElem_cons h1,h2]
    show intoS B (O.drop (j+1)) _=_
    rw [q3,List.getD_eq_getElem?_getD,hx]
    rfl
   have hat2:∀v:Int,minI b x=v→0≤v→v≤b→InAt B O a w g (j+1) (out.set i v) (b-v) (W.setCell ⟨g,i,none⟩ (.int .i64 v)):=fun v hv h0 h1=>
    ⟨by rw [HmO.out];omega,by omega,by omega,by rw [Hn.out];exact hrow.set (by omega) v,by rw [hat.eq,hstep,hv],hat.kp.trans (Keeps.setCell _ _ _ (.inr hat.gg)),hat.gg⟩
   by_cases hmin:b≤x
   ·have h2:=hat2 b (by unfold minI;rw [if_pos hmin]) (by omega) (by omega)
    rw [Int.sub_self] at h2
    clear hat2
    obtain⟨Hat,Hrow,Hk,Hx,Hy,Hstep,Hi,H2⟩:=hid8 hat hrow hk hx hy hstep hi h2;clear h2 hi hstep hy hx hk hrow hat
    go_wp2
    go_step3
    go_wp2
    exact Az ⟨inJ.mk g (j+1) (out.set i b) 0 rfl H2.out,by simp [slotNatR];omega⟩
   ·have h2:=hat2 x (by unfold minI;rw [if_neg hmin]) (by omega) (by omega)
    clear hat2
    obtain⟨Hat,Hrow,Hk,Hx,Hy,Hstep,Hi,H2⟩:=hid8 hat hrow hk hx hy hstep hi h2;clear h2 hi hstep hy hx hk hrow hat
    go_wp2
    go_step3
    go_wp2
    exact Az ⟨inJ.mk g (j+1) (out.set i x) (b-x) rfl H2.out,by simp [slotNatR];omega⟩
  ·obtain rfl:j=m:=by omega
   have he:=hat.eq
   rw [Hr.out,List.drop_eq_nil_of_le (by rw [HmO.out];exact Nat.le_refl _)] at he
   have he2:r=(out,b):=he
   subst he2
   have hkp:=hat.kp
   have hgg:=hat.gg
   obtain⟨Hat,He,Hrow,Hkp,Hgg⟩:=hid5 hat he hrow hkp hgg;clear hgg hkp hrow he hat
   go_wp2
   refine Bl ?_
   have hpost:IntoPost (out,b) w (.returned (.tuple #[.slice (some ⟨g,0,none⟩) n n,.int .i64 b])) W:=⟨g,by simp only;rw [Hrl.out],by simp only;rw [Hrl.out];exact Hrow.out,Hkp.out,Hgg.out⟩
   exact bodyPost_ret (v:= .tuple #[.slice (some ⟨g,0,none⟩) n n,.int .i64 b]) (by simp [results,Tryz.results159,go_sem]) rfl hpost
 ·intro hfirst
  have Hfirst:=Lib.hid hfirst;clear hfirst
  go_wp2_with fail
  go_step3
  rename_i hK
  refine hK _ _ ?_
  refine Hfirst.out _ _ ?_
  have hmd:=RowZ.made w 2 n (by unfold maxLen;omega)
  rw [←HZ.out] at hmd
  exact inJ.mk w.heap.size 0 (List.replicate n 0) a rfl ⟨Nat.zero_le _,ha0,ha1,by rw [Hn.out];exact hmd,by unfold intoL;rw [Hn.out];rfl,by(repeat (first|exact Keeps.refl _ _|exact Keeps.alloc _ _|exact Keeps.drew _|exact Keeps.drewN _ _|refine Keeps.Ap ?_|refine Keeps.Al ?_|refine Keeps.Ae ?_)),Nat.le_refl _⟩
structure Ps where
 bal:List Int
 cr:Int
 du:Int
def Ps.val(p:Ps)(v:Value):Value:= .agg #[v,.int .i64 p.cr,.int .i64 p.du]
def sumI:List Int→Int
 | []=>0
 |x::L=>x+sumI L
theorem sumI_app(A B:List Int):sumI (A++B)=sumI A+sumI B:=by
 induction A with
 |nil=>simp [sumI]
 |cons x A ih=>simp only [List.cons_append,sumI,ih];omega
theorem sumI_snoc{L:List Int}{k:Nat}{x:Int}(h:L[k]?=some x):sumI (L.take (k+1))=sumI (L.take k)+x:=by rw [take_snoc' h,sumI_app];simp [sumI]
theorem sumI_nonneg{L:List Int}(h:L.all moneyP=true):0≤sumI L:=by
 induction L with
 |nil=>exact Int.le_refl _
 |cons x L ih=>
  simp only [List.all_cons,Bool.and_eq_true] at h
  have:=ih h.2
  have:=(Bg x).1 h.1
  simp only [sumI];omega
def scanB(L:List Int):Bool:=L.all moneyP&&moneyP (sumI L)
theorem scan_bad1{L:List Int}{k:Nat}{x:Int}(h:L[k]?=some x)(hx:moneyP x=false):scanB L=false:=by
 have:L.all moneyP=false:=by
  rw [Bool.eq_false_iff];intro hh
  have:=List.all_eq_true.1 hh x (List.mem_of_getElem? h)
  rw [hx] at this;cases this
 unfold scanB;rw [this];rfl
theorem scan_bad2{L:List Int}{k:Nat}(hk:1000000000000000<sumI (L.take k)):scanB L=false:=by
 rcases ha:L.all moneyP with _|_
 ·unfold scanB;rw [ha];rfl
 ·have hd:(L.drop k).all moneyP=true:=List.all_eq_true.2 fun x hx=>List.all_eq_true.1 ha x (List.mem_of_mem_drop hx)
  have h1:=sumI_nonneg hd
  have h2:sumI L=sumI (L.take k)+sumI (L.drop k):=by rw [←sumI_app,List.take_append_drop]
  unfold scanB
  rw [show moneyP (sumI L)=false by simp [moneyP];omega];simp
def Ps.rightB(p:Ps):Bool:=scanB p.bal&&(decide (1≤p.bal.length)&&(decide (p.bal.length≤8)&&(moneyP p.cr&&(moneyP p.du&&(decide (p.cr=0)||decide (sumI p.bal=0))))))
set_option maxHeartbeats 400000
theorem poolMay_any(v:Int)(w:World):Calls Tryz.prog 132 #[.int .i64 v] w fun e w'=>e= .returned (.bool (moneyP v))∧w=w':=by
 by_cases h1:v<0
 ·have hf:moneyP v=false:=by simp [moneyP];omega
  have h1':¬0≤v:=by omega
  exact jZ93
 ·by_cases h2:1000000000000000<v
  ·have hf:moneyP v=false:=by simp [moneyP];omega
   have hd:decide (v≤1000000000000000)=false:=by rw [decide_eq_false_iff_not];omega
   have h1':0≤v:=by omega
   exact jZ93
  ·have hf:moneyP v=true:=by simp [moneyP];omega
   have h1':0≤v:=by omega
   exact jZ93
theorem Bo{v:Int}{b:Bool}(h:moneyP v=b)(w:World):Calls Tryz.prog 132 #[.int .i64 v] w fun e w'=>e= .returned (.bool b)∧w=w':=by subst h;exact poolMay_any v w
set_option maxHeartbeats 3200000
theorem poolRight_go(L:List Int)(cr du:Int)(ad:Option Addr)(cap n:Nat)(w:World)(hr:Reads w 1 (.slice ad n cap) n (L.flatMap i64c))(hN:L.length=n)(hl:n≤1000):
  Calls Tryz.prog 110 #[.agg #[.slice ad n cap,.int .i64 cr,.int .i64 du]] w fun e w'=>e= .returned (.bool (Ps.rightB ⟨L,cr,du⟩))∧Keeps (fun _=>False) w w':=by
 obtain⟨z,hz⟩:∃z,Ps.rightB ⟨L,cr,du⟩=z:=⟨_,rfl⟩
 rw [hz]
 have hbx:∀W,Keeps (fun _=>False) (w.alloc (.cells #[.slice ad n cap,.int .i64 cr,.int .i64 du] 34)) W→W.heap[w.heap.size]?=some (.cells #[.slice ad n cap,.int .i64 cr,.int .i64 du] 34 (0,0)):=fun W hW=>Ad (heap_alloc_new w _) hW (by simp)
 obtain⟨Hr,Hz,Hbx⟩:=hid3 hr hz hbx;clear hbx hz hr
 go_enter Tryz.func110,Tryz.ntmps110
 go_wp2
 go_loopw [3,9] (fun x y wx=>∃(i:Nat) (s:Int),x= .int .i64 s∧y= .int .i64 (i:Nat)∧i≤n∧sumI (L.take i)=s∧(L.take i).all moneyP=true∧0≤s∧s≤1000000000000000∧Keeps (fun _=>False) (w.alloc (.cells #[.slice ad n cap,.int .i64 cr,.int .i64 du] 34)) wx) (fun _ y _=>n-(intOf y).toNat)
 case atStart=>exact⟨0,0,rfl,rfl,Nat.zero_le _,rfl,rfl,by omega,by omega,Keeps.refl _ _⟩
 case round=>
  obtain⟨i,s,rfl,rfl,hin,hs,hall,hs0,hs1,hk⟩:=hrel
  obtain⟨wq,hwq⟩:∃x,x=wr:=⟨_,rfl⟩
  subst hwq
  by_cases hlt:i<n
  ·have hltI:(i:Int)<(n:Int):=by omega
   obtain⟨x,hx⟩:=Av (L:=L) (k:=i) (by omega)
   obtain⟨g,o,he,hc⟩:=(Hr.out.keeps ((Keeps.alloc w _).nt hk) (by simp)).int (k:= .i64) hx
   subst he
   have hgl:=Ag hc
   have hsn:=sumI_snoc hx
   rw [hs] at hsn
   rcases m3:moneyP x with _|_
   ·have hf:Ps.rightB ⟨L,cr,du⟩=false:=by unfold Ps.rightB;rw [show scanB L=false from scan_bad1 hx m3];rfl
    obtain rfl:z=false:=Hz.out.symm.trans hf
    obtain⟨Hall,Hk,Hs,Hsn,Hx,Hf⟩:=hid6 hall hk hs hsn hx hf;clear hf hx hsn hs hk hall
    go_wp2_with (go_at_call 132;(with_reducible refine(Bo m3 _).mono ?_);rintro e w1 ⟨rfl,rfl⟩)
    go_ret
    exact⟨rfl,(Keeps.alloc w _).nt Hk.out⟩
   ·obtain⟨x0,x1⟩:=(Bg x).1 m3
    rcases m4:moneyP (s+x) with _|_
    ·have hf:Ps.rightB ⟨L,cr,du⟩=false:=by
      unfold Ps.rightB
      rw [show scanB L=false from scan_bad2 (k:=i+1) (by rw [hsn];have h4:¬(0≤s+x∧s+x≤1000000000000000):=fun h=>(by rw [(Bg _).2 h] at m4;cases m4);omega)];rfl
     obtain rfl:z=false:=Hz.out.symm.trans hf
     obtain⟨Hall,Hk,Hs,Hsn,Hx,Hf⟩:=hid6 hall hk hs hsn hx hf;clear hf hx hsn hs hk hall
     exact jZ60
    ·obtain⟨y0,y1⟩:=(Bg _).1 m4
     have hall2:(L.take (i+1)).all moneyP=true:=by rw [take_snoc' hx,List.all_append,hall];simp [m3]
     obtain⟨Hall,Hk,Hs,Hsn,Hx,Hall2⟩:=hid6 hall hk hs hsn hx hall2;clear hall2 hx hsn hs hk hall
     go_wp2_with (first|(go_at_call 132;(with_reducible refine(Bo m3 _).mono ?_);rintro e w1 ⟨rfl,rfl⟩)|(go_at_call 132;(with_reducible refine(Bo m4 _).mono ?_);rintro e w1 ⟨rfl,rfl⟩))
     go_roundw
     case rel=>exact⟨i+1,s+x,rfl,by go_num,by omega,Hsn.out,Hall2.out,by omega,by omega,Hk.out⟩
     case measure=>simp [intOf];omega
  ·obtain rfl:i=n:=by omega
   rw [List.take_of_length_le (by omega)] at hs hall
   have hsc:scanB L=true:=by unfold scanB;rw [hall,hs,(Bg s).2 ⟨hs0,hs1⟩];rfl
   have hb:=Hbx.out wq hk
   have b0:=Aa hb 0
   have b1:=Aa hb 1
   have b2:=Aa hb 2
   have bl:=lt_of_block hb
   have m3:moneyP cr=moneyP cr:=rfl
   have m4:moneyP du=moneyP du:=rfl
   clear hb
   by_cases h1:1≤i
   ·have h1I:decide ((1:Int)≤(i:Int))=true:=by rw [decide_eq_true_iff];omega
    by_cases h2:i≤8
    ·have h2I:decide ((i:Int)≤8)=true:=by rw [decide_eq_true_iff];omega
     clear m3 m4
     rcases m3:moneyP cr with _|_
     ·have m4:moneyP du=moneyP du:=rfl
      exact jZ104
     ·rcases m4:moneyP du with _|_
      ·skip
       exact jZ104
      ·by_cases h5:cr=0
       ·have h5I:(cr==0)=true:=by simp [h5]
        have h5D:decide (cr=0)=true:=by simp [h5]
        clear h5
        have hf:Ps.rightB ⟨L,cr,du⟩=true:=by unfold Ps.rightB;simp only [*,decide_true,Bool.and_true,Bool.true_or]
        obtain rfl:z=true:=Hz.out.symm.trans hf
        exact jZ11
       ·have h5I:(cr==0)=false:=beq_eq_false_iff_ne.2 h5
        by_cases h6:s=0
        ·subst h6
         have hf:Ps.rightB ⟨L,cr,du⟩=true:=by unfold Ps.rightB;simp only [*,decide_true,decide_false,Bool.and_true,Bool.or_true]
         obtain rfl:z=true:=Hz.out.symm.trans hf
         exact jZ11
        ·have h6I:(s==0)=false:=beq_eq_false_iff_ne.2 h6
         have hf:Ps.rightB ⟨L,cr,du⟩=false:=by unfold Ps.rightB;simp only [*,decide_true,decide_false,Bool.and_false,Bool.or_self]
         exact jZ80
    ·have h2I:decide ((i:Int)≤8)=false:=by rw [decide_eq_false_iff_not];omega
     have hf:Ps.rightB ⟨L,cr,du⟩=false:=by unfold Ps.rightB;simp only [*,decide_true,decide_false,Bool.false_and,Bool.and_false]
     exact jZ80
   ·have h1I:decide ((1:Int)≤(i:Int))=false:=by rw [decide_eq_false_iff_not];omega
    have hf:Ps.rightB ⟨L,cr,du⟩=false:=by unfold Ps.rightB;simp only [*,decide_false,Bool.false_and,Bool.and_false]
    exact jZ80
set_option maxHeartbeats 400000
theorem Dg(w:World)(v:Value)(n:Nat)(xs:List Value)(hr:Reads w 1 v n xs)(h1:∀u∈xs,u.oneCell'=true)(hn:n≤1000000000000):
  Calls Tryz.prog 42 #[v] w fun e w'=>∃v',e= .returned v'∧w'.ownsRow 0 2 1 v' n xs∧Keeps (fun _=>False) w w'∧(∀k,v'.ownBlock=some k→w.heap.size≤k):=by
 obtain⟨i0,hi,hz0,hz1,hz2⟩:=info_parts info_tInt64
 have hr':=hr
 obtain⟨ad,c,rfl,hnc,hl,hnone,hcells⟩:=hr'
 clear hcells
 have heq:=fun(wx:World) (ad:Option Addr) (l c:Nat)=>Lib.run_eql_slice_nil (P:=Tryz.prog) wx 32 _ ad l c 0 0 Tryz.underlying32
 rcases ad with _|a
 ·obtain rfl:=hnone rfl
  obtain rfl:n=0:=by omega
  obtain rfl:xs= []:=List.eq_nil_of_length_eq_zero (by simpa using hl)
  have hr0:=Lib.hid hr;clear hr
  go_enter Tryz.func42,Tryz.ntmps42
  exact jZ42
 ·have Hr:=Lib.hid hr;clear hr
  obtain⟨Hl,Hnone,H1⟩:=hid3 hl hnone h1;clear h1 hnone hl
  go_enter Tryz.func42,Tryz.ntmps42
  go_wp2_with (at_builtin;refine Ba rfl (.tmp 5) (.tmp 6) 32 rfl 0 2 i0 _ 1 8 Tryz.underlying32 hi hz0 hz1 hz2 rfl (by decide) _ 0 [] rfl (World.ownsRow_lit w #[] 0 (by omega) (by unfold maxLen;omega) rfl) _ n xs rfl (Hr.out.keeps (Keeps.alloc (S:=fun _=>False) _ _) (by simp)) H1.out (by unfold maxLen;omega) (by omega) (by omega) ?_)
  intro v' w1 hown1 hk1 hfr
  have hend:w1.ownsRow 0 2 1 v' n xs∧Keeps (fun _=>False) w w1∧(∀k,v'.ownBlock=some k→w.heap.size≤k):=by
   exact jZ16
  exact jZ57
def ps0:Ps:=⟨[],0,0⟩
def GivesP(p:Ps)(z:Int)(w:World)(e:Ending)(w':World):Prop:=∃v,e= .returned (.tuple #[.agg #[v,.int .i64 p.cr,.int .i64 p.du],.int .i64 z])∧w'.ownsRow 0 2 1 v p.bal.length (p.bal.flatMap i64c)∧Fresh w w' v
set_option maxHeartbeats 1600000
theorem poolOwn_any(L:List Int)(cr du:Int)(v:Value)(n:Nat)(w:World)(hr:Reads w 1 v n (L.flatMap i64c))(hl:n≤1000):
  Calls Tryz.prog 143 #[.agg #[v,.int .i64 cr,.int .i64 du]] w fun e w'=>∃v',e= .returned (.agg #[v',.int .i64 cr,.int .i64 du])∧w'.ownsRow 0 2 1 v' n (L.flatMap i64c)∧Fresh w w' v':=by
 have hcl:=fun W (hW:Keeps (fun _=>False) w W)=>Dg W v n (L.flatMap i64c) (hr.keeps hW (by simp)) (i64c_one _) (by omega)
 obtain⟨ad,cap,rfl,_⟩:=id hr
 obtain⟨Hr,Hcl⟩:=hid2 hr hcl;clear hcl hr
 go_enter Tryz.func143,Tryz.ntmps143
 go_wp2_with fail
 refine(Hcl.out _ (by(repeat (first|exact Keeps.refl _ _|exact Keeps.alloc _ _|exact Keeps.drew _|exact Keeps.drewN _ _|refine Keeps.Ap ?_|refine Keeps.Al ?_|refine Keeps.Ae ?_)))).mono ?_
 rintro e w1 ⟨v1,rfl,hrow,hk1,hnew⟩
 have hkw:=(by(repeat (first|exact Keeps.refl _ _|exact Keeps.alloc _ _|exact Keeps.drew _|exact Keeps.drewN _ _|refine Keeps.Ap ?_|refine Keeps.Al ?_|refine Keeps.Ae ?_)):Keeps (fun _=>False) w ((w.alloc (.cells #[.slice ad n cap,.int .i64 cr,.int .i64 du] 34)).alloc (.cells #[.slice none 0 0,.int .i64 0,.int .i64 0] 34))).nt hk1
 have hb:=Ad (Au (heap_alloc_new w (.cells #[.slice ad n cap,.int .i64 cr,.int .i64 du] 34)) (.cells #[.slice none 0 0,.int .i64 0,.int .i64 0] 34)) hk1 (by simp)
 have hrs:w1.heap[w.heap.size+1]?=some (.cells #[.slice none 0 0,.int .i64 0,.int .i64 0] 34 (0,0)):=Ad (Ay _ _ (by simp)) hk1 (by simp)
 have k0:Keeps (fun i=>i=w.heap.size) w1 (w1.setCell ⟨w.heap.size,0,none⟩ v1):=Keeps.setCell _ _ _ rfl
 have hrs2:=Ad hrs k0 (by simp)
 have hb3:((((w1.setCell ⟨w.heap.size,0,none⟩ v1).setCell ⟨w.heap.size+1,0,none⟩ v1).setCell ⟨w.heap.size+1,1,none⟩ (.int .i64 cr)).setCell ⟨w.heap.size+1,2,none⟩ (.int .i64 du)).heap[w.heap.size+1]?=some (.cells #[v1,.int .i64 cr,.int .i64 du] 34 (0,0)):=(heap_setCell_same _ _ 2 _ _ _ ((heap_setCell_same _ _ 1 _ _ _ ((heap_setCell_same _ _ 0 _ _ _ hrs2).trans rfl)).trans rfl)).trans rfl
 have k3:Keeps (fun i=>w.heap.size≤i) w1 ((((w1.setCell ⟨w.heap.size,0,none⟩ v1).setCell ⟨w.heap.size+1,0,none⟩ v1).setCell ⟨w.heap.size+1,1,none⟩ (.int .i64 cr)).setCell ⟨w.heap.size+1,2,none⟩ (.int .i64 du)):=
  (((Keeps.setCell (S:=fun i=>w.heap.size≤i) _ _ _ (Nat.le_refl _)).trans (Keeps.setCell _ _ _ (.inl (by simp)))).trans (Keeps.setCell _ _ _ (.inl (by simp)))).trans (Keeps.setCell _ _ _ (.inl (by simp)))
 have k4:Keeps (fun i=>i=w.heap.size∨i=w.heap.size+1) w1 ((((w1.setCell ⟨w.heap.size,0,none⟩ v1).setCell ⟨w.heap.size+1,0,none⟩ v1).setCell ⟨w.heap.size+1,1,none⟩ (.int .i64 cr)).setCell ⟨w.heap.size+1,2,none⟩ (.int .i64 du)):=
  (((Keeps.setCell (S:=fun i=>i=w.heap.size∨i=w.heap.size+1) _ _ _ (.inl rfl)).trans (Keeps.setCell _ _ _ (.inl (.inr rfl)))).trans (Keeps.setCell _ _ _ (.inl (.inr rfl)))).trans (Keeps.setCell _ _ _ (.inl (.inr rfl)))
 have hrow3:=k4.row hrow (fun g hg e=>by have:=hnew g hg;simp at this;omega)
 have hfin:Fresh w ((((w1.setCell ⟨w.heap.size,0,none⟩ v1).setCell ⟨w.heap.size+1,0,none⟩ v1).setCell ⟨w.heap.size+1,1,none⟩ (.int .i64 cr)).setCell ⟨w.heap.size+1,2,none⟩ (.int .i64 du)) v1:=⟨hkw.trans (k3.mono fun i _ e=> .inr e),fun g hg=>by have:=hnew g hg;simp at this;omega⟩
 have b0:=Aa hb 0
 have b1:=Aa hb 1
 have b2:=Aa hb 2
 have bf:=Ab hb 0
 have bl:=lt_of_block hb
 have r0:=Aa hrs 0
 have r1:=Aa hrs 1
 have r2:=Aa hrs 2
 have rf0:=Ab hrs 0
 have rf1:=Ab hrs 1
 have rf2:=Ab hrs 2
 have rl:=lt_of_block hrs
 have sr0:=Aa hb3 0
 have sr1:=Aa hb3 1
 have sr2:=Aa hb3 2
 obtain⟨ad1,c1,rfl,_,_⟩:=Aj hrow
 obtain⟨Hrow,Hk1,Hnew,Hkw,Hb,Hrs,K0,Hrs2,Hb3⟩:=hid9 hrow hk1 hnew hkw hb hrs k0 hrs2 hb3;clear hb3 hrs2 k0 hrs hb hkw hnew hk1 hrow;obtain⟨K3,K4,Hrow3,Hfin,Sr0,Sr1,Sr2⟩:=hid7 k3 k4 hrow3 hfin sr0 sr1 sr2;clear sr2 sr1 sr0 hfin hrow3 k4 k3
 go_wp2
 have R0':=Sr0.out
 have R1':=Sr1.out
 have R2':=Sr2.out
 clear r0 r1 r2 b0 b1 b2
 exact bodyPost_ret (v:= .agg #[.slice ad1 n c1,.int .i64 cr,.int .i64 du]) (by simp [results,Tryz.results143,go_sem,R0',R1',R2']) rfl ⟨_,rfl,Hrow3.out,Hfin.out⟩
theorem poolJudged_any(L:List Int)(cr du:Int)(ad:Option Addr)(cap n:Nat)(w:World)(hr:Reads w 1 (.slice ad n cap) n (L.flatMap i64c))(hN:L.length=n)(hl:n≤1000):
  Calls Tryz.prog 145 #[.agg #[.slice ad n cap,.int .i64 cr,.int .i64 du]] w fun e w'=>e= .returned (.tuple #[.agg (if Ps.rightB ⟨L,cr,du⟩=true then #[.slice ad n cap,.int .i64 cr,.int .i64 du] else #[.slice none 0 0,.int .i64 0,.int .i64 0]),.int .i64 (if Ps.rightB ⟨L,cr,du⟩=true then 0 else 5)])∧Keeps (fun _=>False) w w':=by
 have hri:=fun W (hW:Keeps (fun _=>False) w W)=>poolRight_go L cr du ad cap n W (hr.keeps hW (by simp)) hN hl
 rcases hb:Ps.rightB ⟨L,cr,du⟩ with _|_
 ·rw [hb] at hri
  rw [if_neg (by decide),if_neg (by decide)]
  obtain⟨Hr,Hri,Hb⟩:=hid3 hr hri hb;clear hb hri hr
  go_enter Tryz.func145,Tryz.ntmps145
  go_wp2_with fail
  refine(Hri.out _ (by(repeat (first|exact Keeps.refl _ _|exact Keeps.alloc _ _|exact Keeps.drew _|exact Keeps.drewN _ _|refine Keeps.Ap ?_|refine Keeps.Al ?_|refine Keeps.Ae ?_)))).mono ?_
  rintro e w1 ⟨rfl,hk1⟩
  have Hk1:=Lib.hid ((by(repeat (first|exact Keeps.refl _ _|exact Keeps.alloc _ _|exact Keeps.drew _|exact Keeps.drewN _ _|refine Keeps.Ap ?_|refine Keeps.Al ?_|refine Keeps.Ae ?_)):Keeps (fun _=>False) w ((w.alloc (.cells #[.slice ad n cap,.int .i64 cr,.int .i64 du] 34)).alloc (.cells #[.slice none 0 0,.int .i64 0,.int .i64 0] 34))).nt hk1)
  have hrs:w1.heap[w.heap.size+1]?=some (.cells #[.slice none 0 0,.int .i64 0,.int .i64 0] 34 (0,0)):=Ad (Ay _ _ (by simp)) hk1 (by simp)
  have r0:=Aa hrs 0
  have r1:=Aa hrs 1
  have r2:=Aa hrs 2
  have rf0:=Ab hrs 0
  have rf1:=Ab hrs 1
  have rf2:=Ab hrs 2
  have rl:=lt_of_block hrs
  have hb3:(((w1.setCell ⟨w.heap.size+1,0,none⟩ (.slice none 0 0)).setCell ⟨w.heap.size+1,1,none⟩ (.int .i64 0)).setCell ⟨w.heap.size+1,2,none⟩ (.int .i64 0)).heap[w.heap.size+1]?=some (.cells #[.slice none 0 0,.int .i64 0,.int .i64 0] 34 (0,0)):=(heap_setCell_same _ _ 2 _ _ _ ((heap_setCell_same _ _ 1 _ _ _ ((heap_setCell_same _ _ 0 _ _ _ hrs).trans rfl)).trans rfl)).trans rfl
  have sr0:=Aa hb3 0
  have sr1:=Aa hb3 1
  have sr2:=Aa hb3 2
  have hfin:Keeps (fun _=>False) w (((w1.setCell ⟨w.heap.size+1,0,none⟩ (.slice none 0 0)).setCell ⟨w.heap.size+1,1,none⟩ (.int .i64 0)).setCell ⟨w.heap.size+1,2,none⟩ (.int .i64 0)):=Hk1.out.trans ((((Keeps.setCell (S:=fun i=>w.heap.size≤i) _ _ _ (by simp)).trans (Keeps.setCell _ _ _ (.inl (by simp)))).trans (Keeps.setCell _ _ _ (.inl (by simp)))).mono fun i _ e=> .inr e)
  obtain⟨Hk1,Hrs,Hb3,Hfin,Sr0,Sr1,Sr2⟩:=hid7 hk1 hrs hb3 hfin sr0 sr1 sr2;clear sr2 sr1 sr0 hfin hb3 hrs hk1
  go_wp2
  have R0':=Sr0.out
  have R1':=Sr1.out
  have R2':=Sr2.out
  clear r0 r1 r2
  exact bodyPost_ret (v:= .tuple #[.agg #[.slice none 0 0,.int .i64 0,.int .i64 0],.int .i64 5]) (by simp [results,Tryz.results145,go_sem,R0',R1',R2']) rfl ⟨rfl,Hfin.out⟩
 ·rw [hb] at hri
  rw [if_pos rfl,if_pos rfl]
  obtain⟨Hr,Hri,Hb⟩:=hid3 hr hri hb;clear hb hri hr
  go_enter Tryz.func145,Tryz.ntmps145
  go_wp2_with fail
  refine(Hri.out _ (by(repeat (first|exact Keeps.refl _ _|exact Keeps.alloc _ _|exact Keeps.drew _|exact Keeps.drewN _ _|refine Keeps.Ap ?_|refine Keeps.Al ?_|refine Keeps.Ae ?_)))).mono ?_
  rintro e w1 ⟨rfl,hk1⟩
  have hbx:=Ad (Au (heap_alloc_new w (.cells #[.slice ad n cap,.int .i64 cr,.int .i64 du] 34)) (.cells #[.slice none 0 0,.int .i64 0,.int .i64 0] 34)) hk1 (by simp)
  have b0:=Aa hbx 0
  have b1:=Aa hbx 1
  have b2:=Aa hbx 2
  have bl:=lt_of_block hbx
  have Hk1:=Lib.hid ((by(repeat (first|exact Keeps.refl _ _|exact Keeps.alloc _ _|exact Keeps.drew _|exact Keeps.drewN _ _|refine Keeps.Ap ?_|refine Keeps.Al ?_|refine Keeps.Ae ?_)):Keeps (fun _=>False) w ((w.alloc (.cells #[.slice ad n cap,.int .i64 cr,.int .i64 du] 34)).alloc (.cells #[.slice none 0 0,.int .i64 0,.int .i64 0] 34))).nt hk1)
  have hrs:w1.heap[w.heap.size+1]?=some (.cells #[.slice none 0 0,.int .i64 0,.int .i64 0] 34 (0,0)):=Ad (Ay _ _ (by simp)) hk1 (by simp)
  have Hbx:=Lib.hid hbx;clear hbx
  have r0:=Aa hrs 0
  have r1:=Aa hrs 1
  have r2:=Aa hrs 2
  have rf0:=Ab hrs 0
  have rf1:=Ab hrs 1
  have rf2:=Ab hrs 2
  have rl:=lt_of_block hrs
  have hb3:(((w1.setCell ⟨w.heap.size+1,0,none⟩ (.slice ad n cap)).setCell ⟨w.heap.size+1,1,none⟩ (.int .i64 cr)).setCell ⟨w.heap.size+1,2,none⟩ (.int .i64 du)).heap[w.heap.size+1]?=some (.cells #[.slice ad n cap,.int .i64 cr,.int .i64 du] 34 (0,0)):=(heap_setCell_same _ _ 2 _ _ _ ((heap_setCell_same _ _ 1 _ _ _ ((heap_setCell_same _ _ 0 _ _ _ hrs).trans rfl)).trans rfl)).trans rfl
  have sr0:=Aa hb3 0
  have sr1:=Aa hb3 1
  have sr2:=Aa hb3 2
  have hfin:Keeps (fun _=>False) w (((w1.setCell ⟨w.heap.size+1,0,none⟩ (.slice ad n cap)).setCell ⟨w.heap.size+1,1,none⟩ (.int .i64 cr)).setCell ⟨w.heap.size+1,2,none⟩ (.int .i64 du)):=Hk1.out.trans ((((Keeps.setCell (S:=fun i=>w.heap.size≤i) _ _ _ (by simp)).trans (Keeps.setCell _ _ _ (.inl (by simp)))).trans (Keeps.setCell _ _ _ (.inl (by simp)))).mono fun i _ e=> .inr e)
  obtain⟨Hk1,Hrs,Hb3,Hfin,Sr0,Sr1,Sr2⟩:=hid7 hk1 hrs hb3 hfin sr0 sr1 sr2;clear sr2 sr1 sr0 hfin hb3 hrs hk1
  go_wp2
  have R0':=Sr0.out
  have R1':=Sr1.out
  have R2':=Sr2.out
  clear r0 r1 r2
  exact bodyPost_ret (v:= .tuple #[.agg #[.slice ad n cap,.int .i64 cr,.int .i64 du],.int .i64 0]) (by simp [results,Tryz.results145,go_sem,R0',R1',R2']) rfl ⟨rfl,Hfin.out⟩
def trB(n:Nat)(k:Int):Bool:=decide (1≤k)&&decide (k≤n)
def askE(p:Ps)(T:List Int)(a:Int):Int:=if p.rightB=true then(if T.all (trB p.bal.length)=true then(if moneyP a=true then 0 else 8) else 7) else 1
theorem poolAsked_any(L:List Int)(cr du a:Int)(T:List Int)(ad adT:Option Addr)(cap capT n m:Nat)(w:World)(hr:Reads w 1 (.slice ad n cap) n (L.flatMap i64c))(hN:L.length=n)(hl:n≤1000)(hT:Reads w 1 (.slice adT m capT) m (T.flatMap i64c))(hM:T.length=m)(hm:m≤1000):
  Calls Tryz.prog 142 #[.agg #[.slice ad n cap,.int .i64 cr,.int .i64 du],.int .i64 a,.slice adT m capT] w fun e w'=>e= .returned (.int .i64 (askE ⟨L,cr,du⟩ T a))∧Keeps (fun _=>False) w w':=by
 have hri:=fun W (hW:Keeps (fun _=>False) w W)=>poolRight_go L cr du ad cap n W (hr.keeps hW (by simp)) hN hl
 obtain⟨z,hz⟩:∃z,askE ⟨L,cr,du⟩ T a=z:=⟨_,rfl⟩
 have hz':=hz
 unfold askE at hz'
 simp only at hz'
 rw [hN] at hz'
 rw [hz]
 have hbx:∀W,Keeps (fun _=>False) (w.alloc (.cells #[.slice ad n cap,.int .i64 cr,.int .i64 du] 34)) W→W.heap[w.heap.size]?=some (.cells #[.slice ad n cap,.int .i64 cr,.int .i64 du] 34 (0,0)):=fun W hW=>Ad (heap_alloc_new w _) hW (by simp)
 rcases hb:Ps.rightB ⟨L,cr,du⟩ with _|_
 ·rw [hb] at hri hz'
  rw [if_neg (by decide)] at hz'
  subst hz'
  obtain⟨Hr,HT,Hri,Hb,Hz,Hbx⟩:=hid6 hr hT hri hb hz hbx;clear hbx hz hb hri hT hr
  go_enter Tryz.func142,Tryz.ntmps142
  exact jZ46
 ·rw [hb] at hri hz'
  rw [if_pos rfl] at hz'
  obtain⟨Hr,HT,Hri,Hb,Hz,Hz',Hbx⟩:=hid7 hr hT hri hb hz hz' hbx;clear hbx hz' hz hb hri hT hr
  go_enter Tryz.func142,Tryz.ntmps142
  go_wp2_with fail
  refine(Hri.out _ (by(repeat (first|exact Keeps.refl _ _|exact Keeps.alloc _ _|exact Keeps.drew _|exact Keeps.drewN _ _|refine Keeps.Ap ?_|refine Keeps.Al ?_|refine Keeps.Ae ?_)))).mono ?_
  rintro e w1 ⟨rfl,hk1⟩
  have Hk1:=Lib.hid hk1
  clear hk1
  go_wp2
  go_loopw [14] (fun x wx=>∃i:Nat,x= .int .i64 (i:Nat)∧i≤m∧(T.take i).all (trB n)=true∧Keeps (fun _=>False) w1 wx) (fun x _=>m-(intOf x).toNat)
  case atStart=>exact⟨0,rfl,Nat.zero_le _,rfl,Keeps.refl _ _⟩
  case round=>
   obtain⟨i,rfl,him,hall,hk⟩:=hrel
   obtain⟨wq,hwq⟩:∃x,x=wr:=⟨_,rfl⟩
   subst hwq
   have hkb:=Hk1.out.nt hk
   have hkw:=(Keeps.alloc w _).nt hkb
   by_cases hlt:i<m
   ·have hltI:(i:Int)<(m:Int):=by omega
    obtain⟨k,hx⟩:=Av (L:=T) (k:=i) (by omega)
    obtain⟨g,o,he,hc⟩:=(HT.out.keeps hkw (by simp)).int (k:= .i64) hx
    subst he
    have hgl:=Ag hc
    have hb:=Hbx.out wq hkb
    have b0:=Aa hb 0
    have bl:=lt_of_block hb
    clear hb
    by_cases hk1:1≤k∧k≤n
    ·obtain⟨k1,k2⟩:=hk1
     have hall2:(T.take (i+1)).all (trB n)=true:=by rw [take_snoc' hx,List.all_append,hall];simp [trB,k1,k2]
     have k1':¬k<1:=by omega
     have k2':¬(n:Int)<k:=by omega
     obtain⟨Hall,Hk,Hkb,Hkw,Hx,Hall2⟩:=hid6 hall hk hkb hkw hx hall2;clear hall2 hx hkw hkb hk hall
     go_wp2
     go_roundw
     case rel=>exact⟨i+1,by go_num,by omega,Hall2.out,Hk.out⟩
     case measure=>simp [intOf];omega
    ·have hbad:T.all (trB n)=false:=by
      rw [Bool.eq_false_iff];intro h
      have:=List.all_eq_true.1 h k (List.mem_of_getElem? hx)
      simp [trB] at this;omega
     have h:=Hz'.out
     rw [hbad,if_neg (by decide)] at h
     subst h
     obtain⟨Hall,Hk,Hkb,Hkw,Hx,Hbad⟩:=hid6 hall hk hkb hkw hx hbad;clear hbad hx hkw hkb hk hall
     by_cases k1:k<1
     ·clear hk1
      go_wp2
      go_ret
      exact⟨rfl,Hkw.out⟩
     ·have k2:(n:Int)<k:=by omega
      clear hk1
      go_wp2
      go_ret
      exact⟨rfl,Hkw.out⟩
   ·obtain rfl:i=m:=by omega
    rw [List.take_of_length_le (by omega)] at hall
    have h:=Hz'.out
    rw [hall,if_pos rfl] at h
    rcases m3:moneyP a with _|_
    ·rw [m3,if_neg (by decide)] at h
     exact jZ69
    ·rw [m3,if_pos rfl] at h
     exact jZ69
def chargeP(p:Ps)(k a:Int):Ps:=⟨p.bal.set (k-1).toNat (p.bal.getD (k-1).toNat 0+(a-minI a p.cr)),p.cr-minI a p.cr,p.du⟩
theorem poolCharge0_any(B g c:Nat)(L:List Int)(cr du k a:Int)(n:Nat)(w:World)(hb:w.heap[B]?=some (.cells #[.slice (some ⟨g,0,none⟩) n c,.int .i64 cr,.int .i64 du] 34 (0,0)))(hrow:RowZ w 2 g n c L)(hm:∀x,L[(k-1).toNat]?=some x→0≤x∧x≤1000000000000000)(hcr:0≤cr∧cr≤1000000000000000)(ha:0≤a∧a≤1000000000000000)(hk:1≤k∧k≤n)(hn:n≤1000):
  Calls Tryz.prog 144 #[(.pointer (some ⟨B,0,none⟩)),.int .i64 k,.int .i64 a] w fun e w'=>e= .returned (.tuple #[])∧w'.heap[B]?=some (.cells #[.slice (some ⟨g,0,none⟩) n c,.int .i64 (cr-minI a cr),.int .i64 du] 34 (0,0))∧RowZ w' 2 g n c (L.set (k-1).toNat (L.getD (k-1).toNat 0+(a-minI a cr)))∧Keeps (fun i=>i=B∨i=g) w w':=by
 obtain⟨i,hi⟩:∃i:Nat,(i:Int)=k-1:=⟨(k-1).toNat,by omega⟩
 have hlen:=hrow.2
 obtain⟨x,hx⟩:=Av (L:=L) (k:=i) (by omega)
 have q3:(k-1).toNat=i:=by omega
 obtain⟨x1,x2⟩:=hm x (by rw [q3];exact hx)
 have hxD:L.getD (k-1).toNat 0=x:=by rw [q3,List.getD_eq_getElem?_getD,hx];rfl
 rw [hxD,q3]
 obtain⟨m,hmin⟩:∃m,minI a cr=m:=⟨_,rfl⟩
 have hm2:0≤m∧m≤a∧m≤cr:=by rw [←hmin];unfold minI;split<;>omega
 rw [hmin]
 have hgB:g≠B:=fun e=>by
  subst e
  exact Aq hrow.1 hb (by decide) rfl
 have b0:=Aa hb 0
 have b1:=Aa hb 1
 have b2:=Aa hb 2
 have f1:=Ab hb 1
 have bl:=lt_of_block hb
 have ck:=hrow.cell hx
 have fk:=hrow.free i
 have lg:=hrow.lt
 have q1:(0:Int)≤k-1:=by omega
 have q2:k-1<(n:Int):=by omega
 have q4:IntKind.i64.wrap (k-1)=k-1:=IntWalk.i64_in _ ⟨by omega,by omega⟩
 have k1:Keeps (fun i=>i=B) w (w.setCell ⟨B,1,none⟩ (.int .i64 (cr-m))):=Keeps.setCell _ _ _ rfl
 have k2:Keeps (fun i=>i=g) (w.setCell ⟨B,1,none⟩ (.int .i64 (cr-m))) ((w.setCell ⟨B,1,none⟩ (.int .i64 (cr-m))).setCell ⟨g,i,none⟩ (.int .i64 (x+(a-m)))):=Keeps.setCell _ _ _ rfl
 have hrow1:RowZ (w.setCell ⟨B,1,none⟩ (.int .i64 (cr-m))) 2 g n c L:=⟨k1.row hrow.1 (fun g' hg e=>by simp only [Value.ownBlock,Option.some.injEq] at hg;subst hg;exact hgB e),hrow.2⟩
 have hin:i<n:=by omega
 have hpost:((w.setCell ⟨B,1,none⟩ (.int .i64 (cr-m))).setCell ⟨g,i,none⟩ (.int .i64 (x+(a-m)))).heap[B]?=some (.cells #[.slice (some ⟨g,0,none⟩) n c,.int .i64 (cr-m),.int .i64 du] 34 (0,0))∧RowZ ((w.setCell ⟨B,1,none⟩ (.int .i64 (cr-m))).setCell ⟨g,i,none⟩ (.int .i64 (x+(a-m)))) 2 g n c (L.set i (x+(a-m)))∧Keeps (fun i=>i=B∨i=g) w ((w.setCell ⟨B,1,none⟩ (.int .i64 (cr-m))).setCell ⟨g,i,none⟩ (.int .i64 (x+(a-m)))):=
  ⟨Ad ((heap_setCell_same _ _ 1 _ _ _ hb).trans rfl) k2 (fun e=>hgB e.symm),hrow1.set hin _,(k1.mono fun i _ e=> .inl e).trans (k2.mono fun i _ e=> .inl (.inr e))⟩
 have hgB2:¬B=g:=fun e=>hgB e.symm
 obtain⟨ha0,ha1⟩:=ha
 obtain⟨hc0,hc1⟩:=hcr
 obtain⟨m0,m1,m2⟩:=hm2
 by_cases hle:a≤cr
 ·obtain rfl:m=a:=by rw [←hmin];unfold minI;rw [if_pos hle]
  rw [Int.sub_self,Int.add_zero] at hpost⊢
  exact jZ55
 ·obtain rfl:m=cr:=by rw [←hmin];unfold minI;rw [if_neg hle]
  rw [Int.sub_self] at hpost⊢
  exact jZ55
theorem Keeps.te{S T:Nat→Prop}{w w1 w2:World}(h:Keeps S w w1)(h2:Keeps T w1 w2)(hs:∀i,T i→S i):Keeps S w w2:=h.trans (h2.mono fun i _ e=> .inl (hs i e))
theorem store3 {W : World} {R : Nat} {t : TypeId} {v0 c0 d0 : Value} (h : W.heap[R]? = some (.cells #[v0, c0, d0] t (0, 0))) (v c d : Value) :
    (((W.setCell ⟨R, 0, none⟩ v).setCell ⟨R, 1, none⟩ c).setCell ⟨R, 2, none⟩ d).heap[R]? = some (.cells #[v, c, d] t (0, 0)) ∧ Keeps (fun i => i = R) W (((W.setCell ⟨R, 0, none⟩ v).setCell ⟨R, 1, none⟩ c).setCell ⟨R, 2, none⟩ d) :=
  ⟨(heap_setCell_same _ _ 2 _ _ _ ((heap_setCell_same _ _ 1 _ _ _ ((heap_setCell_same _ _ 0 _ _ _ h).trans rfl)).trans rfl)).trans rfl,
   ((Keeps.setCell (S := fun i => i = R) _ _ _ rfl).trans (Keeps.setCell _ _ _ (.inl rfl))).trans (Keeps.setCell _ _ _ (.inl rfl))⟩
theorem Df{w:World}{b:Nat}{e:TypeId}{s:Nat}{v:Value}{n:Nat}{xs:List Value}(h:w.ownsRow b e s v n xs)(hn:1≤n):∃g c,v= .slice (some ⟨g,0,none⟩) n c:=by
 rcases h.2 with⟨_,h0⟩|⟨g,c,_,h,_⟩
 ·omega
 ·exact⟨g,c,h⟩
theorem askE_zero{p:Ps}{T:List Int}{a:Int}(h:askE p T a=0):p.rightB=true∧T.all (trB p.bal.length)=true∧moneyP a=true:=by
 unfold askE at h
 rcases h1:p.rightB with _|_
 ·rw [h1,if_neg (by decide)] at h;omega
 ·rw [h1,if_pos rfl] at h
  rcases h2:T.all (trB p.bal.length) with _|_
  ·rw [h2,if_neg (by decide)] at h;omega
  ·rw [h2,if_pos rfl] at h
   rcases h3:moneyP a with _|_
   ·rw [h3,if_neg (by decide)] at h;omega
   ·exact⟨rfl,rfl,rfl⟩
theorem Cz{p:Ps}(h:p.rightB=true):(∀x∈p.bal,0≤x∧x≤1000000000000000)∧(0≤p.cr∧p.cr≤1000000000000000)∧(0≤p.du∧p.du≤1000000000000000)∧1≤p.bal.length∧p.bal.length≤8:=by
 simp only [Ps.rightB,scanB,Bool.and_eq_true,decide_eq_true_eq] at h
 obtain⟨⟨h1,_⟩,h2,h3,h4,h5,_⟩:=h
 exact⟨fun x hx=>(Bg x).1 (List.all_eq_true.1 h1 x hx),(Bg _).1 h4,(Bg _).1 h5,h2,h3⟩
def chargeR(p:Ps)(k a:Int):Ps×Int:=if askE p [k] a=0 then(if(chargeP p k a).rightB=true then(chargeP p k a,0) else(ps0,5)) else(ps0,askE p [k] a)
theorem poolCharge_any(L:List Int)(cr du k a:Int)(ad:Option Addr)(cap n:Nat)(w:World)(hr:Reads w 1 (.slice ad n cap) n (L.flatMap i64c))(hN:L.length=n)(hl:n≤1000):
  Calls Tryz.prog 122 #[.agg #[.slice ad n cap,.int .i64 cr,.int .i64 du],.int .i64 k,.int .i64 a] w (GivesP (chargeR ⟨L,cr,du⟩ k a).1 (chargeR ⟨L,cr,du⟩ k a).2 w):=by
 obtain⟨z,hz⟩:∃z,askE ⟨L,cr,du⟩ [k] a=z:=⟨_,rfl⟩
 have hask:=fun(W:World) (g:Nat) (hW:Keeps (fun _=>False) w W) (hT:Reads W 1 (.slice (some ⟨g,0,none⟩) 1 1) 1 ([k].flatMap i64c))=>poolAsked_any L cr du a [k] ad (some ⟨g,0,none⟩) cap 1 n 1 W (hr.keeps hW (by simp)) hN hl hT rfl (by decide)
 rw [hz] at hask
 unfold chargeR
 rw [hz]
 by_cases h0:z=0
 ·subst h0
  rw [if_pos rfl]
  obtain⟨hright,htr,hmon⟩:=askE_zero hz
  obtain⟨hbal,hcr,hdu,hn1,hn8⟩:=Cz hright
  simp only at hbal hcr hdu hn1 hn8
  rw [hN] at hn1 hn8
  have hkk:1≤k∧k≤n:=by simpa [trB,hN] using htr
  have ham:=(Bg a).1 hmon
  have hown:=fun W (hW:Keeps (fun _=>False) w W)=>poolOwn_any L cr du (.slice ad n cap) n W (hr.keeps hW (by simp)) hl
  obtain⟨q,hq⟩:∃q,chargeP ⟨L,cr,du⟩ k a=q:=⟨_,rfl⟩
  rw [hq]
  obtain⟨R,hR⟩:∃R:Ps×Int,(if q.rightB=true then(q,0) else(ps0,5))=R:=⟨_,rfl⟩
  rw [hR]
  obtain⟨Hr,Hask,Hown,Hz,Hright,Htr,Hmon,Hbal,Hcr⟩:=hid9 hr hask hown hz hright htr hmon hbal hcr;clear hcr hbal hmon htr hright hz hown hask hr;obtain⟨Hdu,Hkk,Ham,Hq,HR⟩:=hid5 hdu hkk ham hq hR;clear hR hq ham hkk hdu
  go_enter Tryz.func122,Tryz.ntmps122
  go_wp2_with fail
  all_goals
   refine(Hask.out _ _ (by(repeat (first|exact Keeps.refl _ _|exact Keeps.alloc _ _|exact Keeps.drew _|exact Keeps.drewN _ _|refine Keeps.Ap ?_|refine Keeps.Al ?_|refine Keeps.Ae ?_))) (Reads.litAt _ _ _ 1 1 _ (by simp) rfl)).mono ?_
   rintro e w1 ⟨rfl,hk1⟩
   have hkw:Keeps (fun _=>False) w w1:=(by(repeat (first|exact Keeps.refl _ _|exact Keeps.alloc _ _|exact Keeps.drew _|exact Keeps.drewN _ _|refine Keeps.Ap ?_|refine Keeps.Al ?_|refine Keeps.Ae ?_)):Keeps (fun _=>False) w (((w.alloc (.cells #[.slice ad n cap,.int .i64 cr,.int .i64 du] 34)).alloc (.cells #[.slice none 0 0,.int .i64 0,.int .i64 0] 34)).alloc (.cells #[.int .i64 k] 3))).nt hk1
   have hbx:w1.heap[w.heap.size]?=some (.cells #[.slice ad n cap,.int .i64 cr,.int .i64 du] 34 (0,0)):=Ad (Au (Au (heap_alloc_new w _) _) _) hk1 (by simp)
   have hrs:w1.heap[w.heap.size+1]?=some (.cells #[.slice none 0 0,.int .i64 0,.int .i64 0] 34 (0,0)):=Ad (Au (Ay _ _ (by simp)) _) hk1 (by simp)
   have b0:=Aa hbx 0
   have b1:=Aa hbx 1
   have b2:=Aa hbx 2
   have bl:=lt_of_block hbx
   obtain⟨Hk1,Hkw,Hbx,Hrs⟩:=hid4 hk1 hkw hbx hrs;clear hrs hbx hkw hk1
   go_wp2_with fail
   refine(Hown.out _ Hkw.out).mono ?_
   rintro e w2 ⟨v1,rfl,hrow,hk2,hnew⟩
   obtain⟨g,c,rfl⟩:=Df hrow hn1
   have hgn:w1.heap.size≤g:=hnew g rfl
   have hbx2:=Ad Hbx.out hk2 (by simp)
   clear b0 b1 b2 bl
   have hgB:g≠w.heap.size:=by have:=lt_of_block Hbx.out;omega
   have hgR:g≠w.heap.size+1:=by have:=lt_of_block Hrs.out;omega
   have hS:=store3 hbx2 (.slice (some ⟨g,0,none⟩) n c) (.int .i64 cr) (.int .i64 du)
   obtain⟨hb3,k3⟩:=hS
   have hrow3:=k3.row hrow (fun g' hg e=>by simp only [Value.ownBlock,Option.some.injEq] at hg;subst hg;exact hgB e)
   have hc0:=poolCharge0_any w.heap.size g c L cr du k a n _ hb3 ⟨hrow3,hN⟩ (fun x hx=>Hbal.out x (List.mem_of_getElem? hx)) Hcr.out Ham.out Hkk.out hl
   have c0:=Aa hbx2 0
   have c1:=Aa hbx2 1
   have c2:=Aa hbx2 2
   have f0:=Ab hbx2 0
   have f1:=Ab hbx2 1
   have f2:=Ab hbx2 2
   have bl2:=lt_of_block hbx2
   obtain⟨Hrow,Hk2,Hnew,Hgn,Hbx2,HgB,HgR,Hb3,K3⟩:=hid9 hrow hk2 hnew hgn hbx2 hgB hgR hb3 k3;clear k3 hb3 hgR hgB hbx2 hgn hnew hk2 hrow;obtain⟨Hrow3,Hc0⟩:=hid2 hrow3 hc0;clear hc0 hrow3
   go_wp2_with fail
   refine Hc0.out.mono ?_
   rintro e w4 ⟨rfl,hb4,hrow4,hk4⟩
   clear c0 c1 c2 f0 f1 f2 bl2
   obtain⟨L2,hL2⟩:∃x,L.set (k-1).toNat (L.getD (k-1).toNat 0+(a-minI a cr))=x:=⟨_,rfl⟩
   obtain⟨c2,hc2⟩:∃x,cr-minI a cr=x:=⟨_,rfl⟩
   have hq:=Hq.out
   unfold chargeP at hq
   simp only at hq
   rw [hL2,hc2] at hq
   rw [hL2] at hrow4
   rw [hc2] at hb4
   clear Hq
   subst hq
   have hrs4:w4.heap[w.heap.size+1]?=some (.cells #[.slice none 0 0,.int .i64 0,.int .i64 0] 34 (0,0)):=Ad (Ad (Ad Hrs.out Hk2.out (by simp)) K3.out (by simp)) hk4 (by have:=HgR.out;simp;omega)
   have hjud:=poolJudged_any L2 c2 du (some ⟨g,0,none⟩) c n w4 hrow4.reads hrow4.2 hl
   have b0:=Aa hb4 0
   have b1:=Aa hb4 1
   have b2:=Aa hb4 2
   have bl:=lt_of_block hb4
   rcases hrt:Ps.rightB ⟨L2,c2,du⟩ with _|_
   ·skip
    rw [hrt,if_neg (by decide),if_neg (by decide)] at hjud
    have hR:=HR.out
    clear HR
    rw [hrt,if_neg (by decide)] at hR
    subst hR
    obtain⟨HL2,Hc2,Hb4,Hrow4,Hk4,Hrs4,Hjud,Hrt⟩:=hid8 hL2 hc2 hb4 hrow4 hk4 hrs4 hjud hrt;clear hrt hjud hrs4 hk4 hrow4 hb4 hc2 hL2
    go_wp2_with fail
    refine Hjud.out.mono ?_
    rintro e w5 ⟨rfl,hk5⟩
    clear b0 b1 b2 bl
    have hrs5:=Ad Hrs4.out hk5 (by simp)
    have hS3:=store3 hrs5 (.slice none 0 0) (.int .i64 0) (.int .i64 0)
    obtain⟨hb9,k9⟩:=hS3
    have r0:=Aa hrs5 0
    have r1:=Aa hrs5 1
    have r2:=Aa hrs5 2
    have rf0:=Ab hrs5 0
    have rf1:=Ab hrs5 1
    have rf2:=Ab hrs5 2
    have rl:=lt_of_block hrs5
    have sr0:=Aa hb9 0
    have sr1:=Aa hb9 1
    have sr2:=Aa hb9 2
    obtain⟨Hrs5,Hb9,K9,Sr0,Sr1,Sr2⟩:=hid6 hrs5 hb9 k9 sr0 sr1 sr2;clear sr2 sr1 sr0 k9 hb9 hrs5
    have Hk5:=Lib.hid hk5;clear hk5
    go_wp2
    have R0':=Sr0.out
    have R1':=Sr1.out
    have R2':=Sr2.out
    clear r0 r1 r2
    exact bodyPost_ret (v:= .tuple #[.agg #[.slice none 0 0,.int .i64 0,.int .i64 0],.int .i64 5]) (by simp [results,Tryz.results122,go_sem,R0',R1',R2']) rfl ⟨_,rfl,⟨by simp [ps0],.inl ⟨rfl,rfl⟩⟩,Hkw.out.trans (((((Hk2.out.mono (fun _ _ e=>e.elim):Keeps (fun i=>w.heap.size≤i) _ _).te K3.out (fun i e=>by have e':i=w.heap.size:=e;omega)).te Hk4.out (fun i e=>by have h1:=Hgn.out;have h2:=Hkw.out.size;rcases e with e'|e'<;>omega)).te Hk5.out (fun i e=>e.elim)).te K9.out (fun i e=>by have e':i=w.heap.size+1:=e;omega)|>.mono fun i _ e=> .inr e),fun g hg=>by simp [Value.ownBlock] at hg⟩
   ·skip
    rw [hrt,if_pos rfl,if_pos rfl] at hjud
    have hR:=HR.out
    clear HR
    rw [hrt,if_pos rfl] at hR
    subst hR
    obtain⟨HL2,Hc2,Hb4,Hrow4,Hk4,Hrs4,Hjud,Hrt⟩:=hid8 hL2 hc2 hb4 hrow4 hk4 hrs4 hjud hrt;clear hrt hjud hrs4 hk4 hrow4 hb4 hc2 hL2
    go_wp2_with fail
    refine Hjud.out.mono ?_
    rintro e w5 ⟨rfl,hk5⟩
    clear b0 b1 b2 bl
    have hrs5:=Ad Hrs4.out hk5 (by simp)
    have hS3:=store3 hrs5 (.slice (some ⟨g,0,none⟩) n c) (.int .i64 c2) (.int .i64 du)
    obtain⟨hb9,k9⟩:=hS3
    have r0:=Aa hrs5 0
    have r1:=Aa hrs5 1
    have r2:=Aa hrs5 2
    have rf0:=Ab hrs5 0
    have rf1:=Ab hrs5 1
    have rf2:=Ab hrs5 2
    have rl:=lt_of_block hrs5
    have sr0:=Aa hb9 0
    have sr1:=Aa hb9 1
    have sr2:=Aa hb9 2
    obtain⟨Hrs5,Hb9,K9,Sr0,Sr1,Sr2⟩:=hid6 hrs5 hb9 k9 sr0 sr1 sr2;clear sr2 sr1 sr0 k9 hb9 hrs5
    have Hk5:=Lib.hid hk5;clear hk5
    go_wp2
    have R0':=Sr0.out
    have R1':=Sr1.out
    have R2':=Sr2.out
    clear r0 r1 r2
    have hrow6:=K9.out.row (Hrow4.out.1.of_keeps Hk5.out) (fun g' hg e=>by simp only [Value.ownBlock,Option.some.injEq] at hg;subst hg;exact HgR.out e)
    have hlen2:=Hrow4.out.2
    exact bodyPost_ret (v:= .tuple #[.agg #[.slice (some ⟨g,0,none⟩) n c,.int .i64 c2,.int .i64 du],.int .i64 0]) (by simp [results,Tryz.results122,go_sem,R0',R1',R2']) rfl ⟨_,rfl,(by rw [hlen2];exact hrow6),Hkw.out.trans (((((Hk2.out.mono (fun _ _ e=>e.elim):Keeps (fun i=>w.heap.size≤i) _ _).te K3.out (fun i e=>by have e':i=w.heap.size:=e;omega)).te Hk4.out (fun i e=>by have h1:=Hgn.out;have h2:=Hkw.out.size;rcases e with e'|e'<;>omega)).te Hk5.out (fun i e=>e.elim)).te K9.out (fun i e=>by have e':i=w.heap.size+1:=e;omega)|>.mono fun i _ e=> .inr e),fun g' hg=>by simp only [Value.ownBlock,Option.some.injEq] at hg;subst hg;have h1:=Hgn.out;have h2:=Hkw.out.size;omega⟩
 ·rw [if_neg h0]
  obtain⟨Hr,Hask,Hz⟩:=hid3 hr hask hz;clear hz hask hr
  go_enter Tryz.func122,Tryz.ntmps122
  go_wp2_with fail
  all_goals
   refine(Hask.out _ _ (by(repeat (first|exact Keeps.refl _ _|exact Keeps.alloc _ _|exact Keeps.drew _|exact Keeps.drewN _ _|refine Keeps.Ap ?_|refine Keeps.Al ?_|refine Keeps.Ae ?_))) (Reads.litAt _ _ _ 1 1 _ (by simp) rfl)).mono ?_
   rintro e w1 ⟨rfl,hk1⟩
   have hkw:Keeps (fun _=>False) w w1:=(by(repeat (first|exact Keeps.refl _ _|exact Keeps.alloc _ _|exact Keeps.drew _|exact Keeps.drewN _ _|refine Keeps.Ap ?_|refine Keeps.Al ?_|refine Keeps.Ae ?_)):Keeps (fun _=>False) w (((w.alloc (.cells #[.slice ad n cap,.int .i64 cr,.int .i64 du] 34)).alloc (.cells #[.slice none 0 0,.int .i64 0,.int .i64 0] 34)).alloc (.cells #[.int .i64 k] 3))).nt hk1
   have hrs:w1.heap[w.heap.size+1]?=some (.cells #[.slice none 0 0,.int .i64 0,.int .i64 0] 34 (0,0)):=Ad (Au (Ay _ _ (by simp)) _) hk1 (by simp)
   have hS3:=store3 hrs (.slice none 0 0) (.int .i64 0) (.int .i64 0)
   obtain⟨hb9,k9⟩:=hS3
   have r0:=Aa hrs 0
   have r1:=Aa hrs 1
   have r2:=Aa hrs 2
   have rf0:=Ab hrs 0
   have rf1:=Ab hrs 1
   have rf2:=Ab hrs 2
   have rl:=lt_of_block hrs
   have sr0:=Aa hb9 0
   have sr1:=Aa hb9 1
   have sr2:=Aa hb9 2
   obtain⟨Hrs,Hb9,K9,Sr0,Sr1,Sr2⟩:=hid6 hrs hb9 k9 sr0 sr1 sr2;clear sr2 sr1 sr0 k9 hb9 hrs
   obtain⟨Hk1,Hkw⟩:=hid2 hk1 hkw;clear hkw hk1
   go_wp2
   have R0':=Sr0.out
   have R1':=Sr1.out
   have R2':=Sr2.out
   clear r0 r1 r2
   exact bodyPost_ret (v:= .tuple #[.agg #[.slice none 0 0,.int .i64 0,.int .i64 0],.int .i64 z]) (by simp [results,Tryz.results122,go_sem,R0',R1',R2']) rfl ⟨_,rfl,⟨by simp [ps0],.inl ⟨rfl,rfl⟩⟩,Hkw.out.trans (K9.out.mono fun i _ e=> .inr (by have e':i=w.heap.size+1:=e;omega)),fun g hg=>by simp [Value.ownBlock] at hg⟩
def mayS(v:Int):Bool:=decide (-1000000000000000≤v)&&decide (v≤1000000000000000)
theorem mayS_iff(v:Int):mayS v=true↔ -1000000000000000≤v∧v≤1000000000000000:=by simp [mayS]
set_option maxHeartbeats 400000
theorem cashMay_any(v:Int)(w:World):Calls Tryz.prog 133 #[.int .i64 v] w fun e w'=>e= .returned (.bool (mayS v))∧w=w':=by
 by_cases h1:v< -1000000000000000
 ·have hf:mayS v=false:=by simp [mayS];omega
  have hd:decide (-1000000000000000≤v)=false:=by rw [decide_eq_false_iff_not];omega
  have Hf:=Lib.hid hf;clear hf
  go_enter Tryz.func133,Tryz.ntmps133
  exact jZ26
 ·by_cases h2:1000000000000000<v
  ·have hf:mayS v=false:=by simp [mayS];omega
   have hd:decide (v≤1000000000000000)=false:=by rw [decide_eq_false_iff_not];omega
   exact jZ86
  ·have hf:mayS v=true:=by simp [mayS];omega
   have hd:decide (v≤1000000000000000)=true:=by rw [decide_eq_true_iff];omega
   exact jZ86
theorem cashMay_at{v:Int}{b:Bool}(h:mayS v=b)(w:World):Calls Tryz.prog 133 #[.int .i64 v] w fun e w'=>e= .returned (.bool b)∧w=w':=by subst h;exact cashMay_any v w
def addS:List Int→Int→Int×Int
 | [],s=>(s,0)
 |x::L,s=>if(mayS x&&mayS (s+x))=true then addS L (s+x) else(0,5)
theorem addS_right:∀(L:List Int) (s:Int),0≤s→L.all moneyP=true→s+sumI L≤1000000000000000→addS L s=(s+sumI L,0):=by
 intro L
 induction L with
 |nil=>intro s _ _ _;simp [addS,sumI]
 |cons x L ih=>
  intro s h0 h1 h2
  simp only [List.all_cons,Bool.and_eq_true] at h1
  obtain⟨x0,x1⟩:=(Bg x).1 h1.1
  have h3:=sumI_nonneg h1.2
  simp only [sumI] at h2⊢
  have m1:mayS x=true:=(mayS_iff x).2 (by omega)
  have m2:mayS (s+x)=true:=(mayS_iff _).2 (by omega)
  simp only [addS,m1,m2,Bool.and_self,if_true]
  rw [ih (s+x) (by omega) h1.2 (by omega),Int.add_assoc]
set_option maxHeartbeats 1600000
theorem cashAdd_any(L:List Int)(ad:Option Addr)(cap n:Nat)(w:World)(hr:Reads w 1 (.slice ad n cap) n (L.flatMap i64c))(hN:L.length=n)(hl:n≤1000000):
  Calls Tryz.prog 111 #[.slice ad n cap] w fun e w'=>e= .returned (.tuple #[.int .i64 (addS L 0).1,.int .i64 (addS L 0).2])∧w=w':=by
 obtain⟨z,hz⟩:∃z,addS L 0=z:=⟨_,rfl⟩
 rw [hz]
 obtain⟨Hr,Hz,HN⟩:=hid3 hr hz hN;clear hN hz hr
 go_enter Tryz.func111,Tryz.ntmps111
 go_wp2_with fail
 refine Be 0 rfl ?_
 go_wp2_with fail
 go_loopw [4,9] (fun x y wx=>∃(i:Nat) (s:Int),x= .int .i64 s∧y= .int .i64 (i:Nat)∧i≤n∧mayS s=true∧addS (L.drop i) s=z∧w=wx) (fun _ y _=>n-(intOf y).toNat)
 case atStart=>exact⟨0,0,rfl,rfl,Nat.zero_le _,rfl,Hz.out,rfl⟩
 case round=>
  obtain⟨i,s,rfl,rfl,hin,hms,hs,hw⟩:=hrel
  subst hw
  by_cases hlt:i<n
  ·have hltI:(i:Int)<(n:Int):=by omega
   obtain⟨x,hx⟩:=Av (L:=L) (k:=i) (by rw [HN.out];exact hlt)
   obtain⟨g,o,he,hc⟩:=Hr.out.int (k:= .i64) hx
   subst he
   have hgl:=Ag hc
   obtain⟨s0,s1⟩:=(mayS_iff s).1 hms
   have hd:L.drop i=x::L.drop (i+1):=by
    exact jZ113
   rw [hd] at hs
   simp only [addS] at hs
   rcases m3:mayS x with _|_
   ·rw [m3,Bool.false_and,if_neg (by decide)] at hs
    subst hs
    obtain⟨Hx,Hms,Hd⟩:=hid3 hx hms hd;clear hd hms hx
    go_wp2_with (go_at_call 133;(with_reducible refine(cashMay_at m3 _).mono ?_);rintro e w1 ⟨rfl,rfl⟩)
    exact jZ76
   ·obtain⟨x0,x1⟩:=(mayS_iff x).1 m3
    rcases m4:mayS (s+x) with _|_
    ·rw [m4,Bool.and_false,if_neg (by decide)] at hs
     subst hs
     obtain⟨Hx,Hms,Hd⟩:=hid3 hx hms hd;clear hd hms hx
     go_wp2_with (first|(go_at_call 133;(with_reducible refine(cashMay_at m3 _).mono ?_);rintro e w1 ⟨rfl,rfl⟩)|(go_at_call 133;(with_reducible refine(cashMay_at m4 _).mono ?_);rintro e w1 ⟨rfl,rfl⟩))
     exact jZ76
    ·obtain⟨y0,y1⟩:=(mayS_iff _).1 m4
     rw [m3,m4,Bool.and_self,if_pos rfl] at hs
     obtain⟨Hx,Hms,Hd,Hs⟩:=hid4 hx hms hd hs;clear hs hd hms hx
     go_wp2_with (first|(go_at_call 133;(with_reducible refine(cashMay_at m3 _).mono ?_);rintro e w1 ⟨rfl,rfl⟩)|(go_at_call 133;(with_reducible refine(cashMay_at m4 _).mono ?_);rintro e w1 ⟨rfl,rfl⟩))
     go_roundw
     case rel=>exact⟨i+1,s+x,rfl,by go_num,by omega,m4,Hs.out,by first|rfl|trivial⟩
     case measure=>simp [intOf];omega
  ·obtain rfl:i=n:=by omega
   rw [List.drop_eq_nil_of_le (by rw [HN.out];exact Nat.le_refl _)] at hs
   simp only [addS] at hs
   subst hs
   go_wp2
   refine Bl ?_
   exact bodyPost_ret (v:= .tuple #[.int .i64 s,.int .i64 0]) (by simp [results,Tryz.results111,go_sem]) rfl ⟨rfl,rfl⟩
theorem poolTotal_any(p:Ps)(ad:Option Addr)(cap:Nat)(w:World)(hr:Reads w 1 (.slice ad p.bal.length cap) p.bal.length (p.bal.flatMap i64c))(hl:p.bal.length≤1000):
  Calls Tryz.prog 89 #[p.val (.slice ad p.bal.length cap)] w fun e w'=>e= .returned (.int .i64 (if p.rightB=true then sumI p.bal else 0))∧Keeps (fun _=>False) w w':=by
 obtain⟨L,cr,du⟩:=p
 simp only [Ps.val] at hr hl⊢
 obtain⟨n,hN⟩:∃n,L.length=n:=⟨_,rfl⟩
 rw [hN] at hr hl⊢
 have hri:=fun W (hW:Keeps (fun _=>False) w W)=>poolRight_go L cr du ad cap n W (hr.keeps hW (by simp)) hN hl
 have hbx:∀W,Keeps (fun _=>False) (w.alloc (.cells #[.slice ad n cap,.int .i64 cr,.int .i64 du] 34)) W→W.heap[w.heap.size]?=some (.cells #[.slice ad n cap,.int .i64 cr,.int .i64 du] 34 (0,0)):=fun W hW=>Ad (heap_alloc_new w _) hW (by simp)
 rcases hb:Ps.rightB ⟨L,cr,du⟩ with _|_
 ·rw [hb] at hri
  rw [if_neg (by decide)]
  obtain⟨Hr,Hri,Hb,Hbx⟩:=hid4 hr hri hb hbx;clear hbx hb hri hr
  go_enter Tryz.func89,Tryz.ntmps89
  exact jZ46
 ·rw [hb] at hri
  rw [if_pos rfl]
  have had:addS L 0=(sumI L,0):=by
   have h1:=hb
   simp only [Ps.rightB,scanB,Bool.and_eq_true] at h1
   have h2:=addS_right L 0 (Int.le_refl _) h1.1.1 (by have:=(Bg _).1 h1.1.2;omega)
   rw [h2,Int.zero_add]
  obtain⟨S,hS⟩:∃S,sumI L=S:=⟨_,rfl⟩
  rw [hS] at had⊢
  have hadd:=fun W (hW:Keeps (fun _=>False) w W)=>cashAdd_any L ad cap n W (hr.keeps hW (by simp)) hN (by omega)
  rw [had] at hadd
  obtain⟨Hr,Hri,Hb,Hbx,Had,Hadd,HS⟩:=hid7 hr hri hb hbx had hadd hS;clear hS hadd had hbx hb hri hr
  go_enter Tryz.func89,Tryz.ntmps89
  go_wp2_with fail
  refine(Hri.out _ (by(repeat (first|exact Keeps.refl _ _|exact Keeps.alloc _ _|exact Keeps.drew _|exact Keeps.drewN _ _|refine Keeps.Ap ?_|refine Keeps.Al ?_|refine Keeps.Ae ?_)))).mono ?_
  rintro e w1 ⟨rfl,hk1⟩
  have hkw:=(Keeps.alloc w _).nt hk1
  have hb1:=Hbx.out w1 hk1
  have b0:=Aa hb1 0
  have bl:=lt_of_block hb1
  obtain⟨Hk1,Hkw,Hb1⟩:=hid3 hk1 hkw hb1;clear hb1 hkw hk1
  go_wp2_with (go_at_call 111;(with_reducible refine(Hadd.out _ Hkw.out).mono ?_);rintro e w2 ⟨rfl,rfl⟩)
  go_ret
  exact⟨rfl,Hkw.out⟩
theorem or_pow(k:Nat)(a c:Int)(h0:0≤a)(h1:a*((2 ^ k:Nat):Int)<18446744073709551616)(c0:0≤c)(c1:c<((2 ^ k:Nat):Int))(c2:c<18446744073709551616):bits .or .u64 (a*((2 ^ k:Nat):Int)) c=(a*((2 ^ k:Nat):Int)+c) % 18446744073709551616:=by
 obtain⟨m,rfl⟩:=Int.eq_ofNat_of_zero_le h0
 obtain⟨d,rfl⟩:=Int.eq_ofNat_of_zero_le c0
 have hor:2 ^ k*m|||d=2 ^ k*m+d:=(Nat.two_pow_add_eq_or_of_lt (i:=k) (b:=d) (by omega) m).symm
 have e1:((m:Int)*((2 ^ k:Nat):Int))=((2 ^ k*m:Nat):Int):=by push_cast;rw [Int.mul_comm]
 rw [e1] at h1⊢
 have hm:(((2 ^ k*m:Nat):Int) % 18446744073709551616).toNat=2 ^ k*m:=by omega
 have hd:((d:Int) % 18446744073709551616).toNat=d:=by omega
 simp only [bits,show IntKind.u64.bits=64 from rfl,BitVec.toNat_or,BitVec.toNat_ofInt]
 simp only [show((2 ^ 64:Nat):Int)=18446744073709551616 from rfl]
 rw [hm,hd,hor]
 simp [IntKind.wrap,IntKind.signed,IntKind.bits]
theorem and_mask32(x:Int)(h0:0≤x)(h1:x<18446744073709551616):bits .and .u64 x 4294967295=x % 4294967296:=by
 obtain⟨m,rfl⟩:=Int.eq_ofNat_of_zero_le h0
 have hm:((m:Int) % 18446744073709551616).toNat=m:=by omega
 have hand:m&&&4294967295=m % 4294967296:=Nat.and_two_pow_sub_one_eq_mod m 32
 simp only [bits,show IntKind.u64.bits=64 from rfl,BitVec.toNat_and,BitVec.toNat_ofInt]
 simp only [show((2 ^ 64:Nat):Int)=18446744073709551616 from rfl]
 rw [hm,show((4294967295:Int) % 18446744073709551616).toNat=4294967295 by decide,hand]
 simp [IntKind.wrap,IntKind.signed,IntKind.bits]
 omega
set_option maxHeartbeats 400000
theorem len64_9(w:World):Calls Tryz.prog 174 #[.int .u64 1000000000] w fun e w'=>e= .returned (.int .i64 30)∧w=w':=by
 go_enter Tryz.func174,Tryz.ntmps174
 go_wp2
 go_ret
 exact⟨by kernel_rfl,rfl⟩
theorem len64_3(w:World):Calls Tryz.prog 174 #[.int .u64 1000] w fun e w'=>e= .returned (.int .i64 10)∧w=w':=by
 go_enter Tryz.func174,Tryz.ntmps174
 go_wp2
 go_ret
 exact⟨by kernel_rfl,rfl⟩
theorem lz64_9(w:World):Calls Tryz.prog 173 #[.int .u64 1000000000] w fun e w'=>e= .returned (.int .i64 34)∧w=w':=by
 go_enter Tryz.func173,Tryz.ntmps173
 go_wp2_with (go_at_call 174;(with_reducible refine(len64_9 _).mono ?_);rintro e w1 ⟨rfl,rfl⟩)
 go_ret
 exact⟨rfl,rfl⟩
theorem lz64_3(w:World):Calls Tryz.prog 173 #[.int .u64 1000] w fun e w'=>e= .returned (.int .i64 54)∧w=w':=by
 go_enter Tryz.func173,Tryz.ntmps173
 go_wp2_with (go_at_call 174;(with_reducible refine(len64_3 _).mono ?_);rintro e w1 ⟨rfl,rfl⟩)
 go_ret
 exact⟨rfl,rfl⟩
set_option maxHeartbeats 800000
theorem div64_9(hi lo:Int)(w:World)(h0:0≤hi)(h1:hi<1000000000)(l0:0≤lo)(l1:lo<18446744073709551616):
  Calls Tryz.prog 167 #[.int .u64 hi,.int .u64 lo,.int .u64 1000000000] w fun e w'=>e= .returned (.tuple #[.int .u64 ((hi*18446744073709551616+lo) / 1000000000),.int .u64 ((hi*18446744073709551616+lo) % 1000000000)])∧Keeps (fun _=>False) w w':=by
 by_cases hz:hi=0
 ·subst hz
  have e1:(0*18446744073709551616+lo)=lo:=by omega
  rw [e1]
  have t1:lo.tdiv 1000000000=lo / 1000000000:=Int.tdiv_eq_ediv_of_nonneg l0
  have t2:lo.tmod 1000000000=lo % 1000000000:=Int.tmod_eq_emod_of_nonneg l0
  have b1:0≤lo / 1000000000:=by omega
  have b2:lo / 1000000000<18446744073709551616:=by omega
  have b3:0≤lo % 1000000000:=by omega
  have b4:lo % 1000000000<1000000000:=by omega
  have b5:IntKind.u64.wrap (lo / 1000000000)=lo / 1000000000:=by simp [IntKind.wrap,IntKind.signed,IntKind.bits];omega
  have b6:IntKind.u64.wrap (lo % 1000000000)=lo % 1000000000:=by simp [IntKind.wrap,IntKind.signed,IntKind.bits];omega
  go_enter Tryz.func167,Tryz.ntmps167
  go_wp2
  refine Ao (fun _=>True) (.take 0 (.take 1 (.take 2 (.take 3 (.take 4 (.take 5 (.take 6 (.take 7 .done)))))))) (by kernel_rfl) (by kernel_rfl) ?_ ?_
  ·trivial
  intro w1 hs1 hk1
  repeat ((first|refine Ai rfl (by rfl) ?_|refine Af rfl (by rfl) ?_|(refine Ah (v:= ?_) rfl (by rfl) ?_ ?_;rotate_left;(· intro w' hSw;unfold id at hSw;go_simp;(try with_reducible rfl));rotate_right));try simp only [aps])
  refine Aw ?_
  go_wp2
  exact bodyPost_ret (v:= .tuple #[.int .u64 (lo / 1000000000),.int .u64 (lo % 1000000000)]) (by simp [results,Tryz.results167,go_sem]) rfl ⟨rfl,hk1⟩
 ·have hzI:(hi==0)=false:=beq_eq_false_iff_ne.2 hz
  have hleI:decide ((1000000000:Int)≤hi)=false:=by rw [decide_eq_false_iff_not];omega
  obtain⟨V,hV⟩:∃V,V=IntKind.u64.wrap (lo*17179869184):=⟨_,rfl⟩
  have hV2:V=lo*17179869184 % 18446744073709551616:=by rw [hV];simp [IntKind.wrap,IntKind.signed,IntKind.bits]
  have hV':IntKind.u64.wrap (lo*17179869184)=V:=hV.symm
  obtain⟨V1,hV1⟩:∃V1,V / 4294967296=V1:=⟨_,rfl⟩
  obtain⟨V0,hV0⟩:∃V0,bits .and .u64 V 4294967295=V0:=⟨_,rfl⟩
  have hV0':V % 4294967296=V0:=by rw [←hV0,and_mask32 V (by omega) (by omega)]
  have hA0:bits .and .u64 17179869184000000000 4294967295=0:=by rw [and_mask32 _ (by decide) (by decide)];decide
  obtain⟨U,hU⟩:∃U,bits .or .u64 (hi*17179869184) (lo / 1073741824)=U:=⟨_,rfl⟩
  have hU2:U=hi*17179869184+lo / 1073741824:=by
   have h:=or_pow 34 hi (lo / 1073741824) h0 (by simp only [show((2 ^ 34:Nat):Int)=17179869184 from rfl];omega) (by omega) (by simp only [show((2 ^ 34:Nat):Int)=17179869184 from rfl];omega) (by omega)
   simp only [show((2 ^ 34:Nat):Int)=17179869184 from rfl] at h
   rw [←hU,h];omega
  have u0:0≤U:=by omega
  have u1:U<4000000000*4294967296:=by omega
  obtain⟨q1,hq1⟩:∃q1,U.tdiv 4000000000=q1:=⟨_,rfl⟩
  have hq1':q1=U / 4000000000:=by rw [←hq1];exact Int.tdiv_eq_ediv_of_nonneg u0
  have q10:0≤q1:=by omega
  have q11:q1<4294967296:=by omega
  obtain⟨r1,hr1⟩:∃r1,U-q1*4000000000=r1:=⟨_,rfl⟩
  have r10:0≤r1:=by omega
  have r11:r1<4000000000:=by omega
  have v10:0≤V1:=by omega
  have v11:V1<4294967296:=by omega
  have qn:decide (4294967296≤q1)=false:=by rw [decide_eq_false_iff_not];omega
  obtain⟨X,hX⟩:∃X,X=r1*4294967296+V1:=⟨_,rfl⟩
  have x0:0≤X:=by omega
  have x1:X<18446744073709551616:=by omega
  have hxx:4294967296*r1+V1=X:=by omega
  have xn:decide (X<0)=false:=by rw [decide_eq_false_iff_not];omega
  obtain⟨A1,hA1⟩:∃A1,IntKind.u64.wrap (U*4294967296)=A1:=⟨_,rfl⟩
  obtain⟨A2,hA2⟩:∃A2,IntKind.u64.wrap (A1+V1)=A2:=⟨_,rfl⟩
  obtain⟨A3,hA3⟩:∃A3,IntKind.u64.wrap (q1*17179869184000000000)=A3:=⟨_,rfl⟩
  have hA4:IntKind.u64.wrap (A2-A3)=X:=by
   simp [IntKind.wrap,IntKind.signed,IntKind.bits] at hA1 hA2 hA3⊢
   omega
  obtain⟨q0,hq0⟩:∃q0,X.tdiv 4000000000=q0:=⟨_,rfl⟩
  have hq0':q0=X / 4000000000:=by rw [←hq0];exact Int.tdiv_eq_ediv_of_nonneg x0
  have q00:0≤q0:=by omega
  have q01:q0<4294967296:=by omega
  obtain⟨r0,hr0⟩:∃r0,X-q0*4000000000=r0:=⟨_,rfl⟩
  have r00:0≤r0:=by omega
  have r01:r0<4000000000:=by omega
  have qn0:decide (4294967296≤q0)=false:=by rw [decide_eq_false_iff_not];omega
  have v00:0≤V0:=by omega
  have v01:V0<4294967296:=by omega
  obtain⟨Y,hY⟩:∃Y,Y=r0*4294967296+V0:=⟨_,rfl⟩
  have y0:0≤Y:=by omega
  have y1:Y<18446744073709551616:=by omega
  have hyy:4294967296*r0+V0=Y:=by omega
  have yn:decide (Y<0)=false:=by rw [decide_eq_false_iff_not];omega
  obtain⟨B1,hB1⟩:∃B1,IntKind.u64.wrap (X*4294967296)=B1:=⟨_,rfl⟩
  obtain⟨B2,hB2⟩:∃B2,IntKind.u64.wrap (B1+V0)=B2:=⟨_,rfl⟩
  obtain⟨B3,hB3⟩:∃B3,IntKind.u64.wrap (q0*17179869184000000000)=B3:=⟨_,rfl⟩
  have hB4:IntKind.u64.wrap (B2-B3)=Y:=by
   simp [IntKind.wrap,IntKind.signed,IntKind.bits] at hB1 hB2 hB3⊢
   omega
  obtain⟨N,hN⟩:∃N,N=hi*18446744073709551616+lo:=⟨_,rfl⟩
  have hfin:q1*4294967296+q0=N / 1000000000∧Y / 17179869184=N % 1000000000:=by
   have k1:N*17179869184=U*18446744073709551616+V:=by omega
   have k2:N*17179869184=(q1*4294967296+q0)*17179869184000000000+Y:=by omega
   omega
  rw [←hN]
  obtain⟨HV,HV2,HU2,Hq1',HX,Hq0',HY,HN,Hfin⟩:=hid9 hV hV2 hU2 hq1' hX hq0' hY hN hfin;clear hfin hN hY hq0' hX hq1' hU2 hV2 hV;have HV0':=Lib.hid hV0';clear hV0'
  go_enter Tryz.func167,Tryz.ntmps167
  go_wp2_with (go_at_call 173;(with_reducible refine(lz64_9 _).mono ?_);rintro e w1 ⟨rfl,rfl⟩)
  go_loop [15,16] (fun x y=>x= .int .u64 q1∧y= .int .u64 r1) (fun _ _=>0)
  case atStart=>exact⟨rfl,rfl⟩
  case round=>
   obtain⟨rfl,rfl⟩:=hrel
   go_wp2
   go_loop [18,16] (fun x y=>x= .int .u64 q0∧y= .int .u64 r0) (fun _ _=>0)
   case atStart=>exact⟨rfl,rfl⟩
   case round=>
    obtain⟨rfl,rfl⟩:=hrel
    go_wp2
    exact bodyPost_ret (v:= .tuple #[.int .u64 (q1*4294967296+q0),.int .u64 (Y / 17179869184)]) (by simp [results,Tryz.results167,go_sem]) rfl ⟨by rw [Hfin.out.1,Hfin.out.2],Keeps.refl _ _⟩
theorem div64_3(hi lo:Int)(w:World)(h0:0≤hi)(h1:hi<1000)(l0:0≤lo)(l1:lo<18446744073709551616):
  Calls Tryz.prog 167 #[.int .u64 hi,.int .u64 lo,.int .u64 1000] w fun e w'=>e= .returned (.tuple #[.int .u64 ((hi*18446744073709551616+lo) / 1000),.int .u64 ((hi*18446744073709551616+lo) % 1000)])∧Keeps (fun _=>False) w w':=by
 by_cases hz:hi=0
 ·subst hz
  have e1:(0*18446744073709551616+lo)=lo:=by omega
  rw [e1]
  have t1:lo.tdiv 1000=lo / 1000:=Int.tdiv_eq_ediv_of_nonneg l0
  have t2:lo.tmod 1000=lo % 1000:=Int.tmod_eq_emod_of_nonneg l0
  have b1:0≤lo / 1000:=by omega
  have b2:lo / 1000<18446744073709551616:=by omega
  have b3:0≤lo % 1000:=by omega
  have b4:lo % 1000<1000:=by omega
  have b5:IntKind.u64.wrap (lo / 1000)=lo / 1000:=by simp [IntKind.wrap,IntKind.signed,IntKind.bits];omega
  have b6:IntKind.u64.wrap (lo % 1000)=lo % 1000:=by simp [IntKind.wrap,IntKind.signed,IntKind.bits];omega
  go_enter Tryz.func167,Tryz.ntmps167
  go_wp2
  refine Ao (fun _=>True) (.take 0 (.take 1 (.take 2 (.take 3 (.take 4 (.take 5 (.take 6 (.take 7 .done)))))))) (by kernel_rfl) (by kernel_rfl) ?_ ?_
  ·trivial
  intro w1 hs1 hk1
  repeat ((first|refine Ai rfl (by rfl) ?_|refine Af rfl (by rfl) ?_|(refine Ah (v:= ?_) rfl (by rfl) ?_ ?_;rotate_left;(· intro w' hSw;unfold id at hSw;go_simp;(try with_reducible rfl));rotate_right));try simp only [aps])
  refine Aw ?_
  go_wp2
  exact bodyPost_ret (v:= .tuple #[.int .u64 (lo / 1000),.int .u64 (lo % 1000)]) (by simp [results,Tryz.results167,go_sem]) rfl ⟨rfl,hk1⟩
 ·have hzI:(hi==0)=false:=beq_eq_false_iff_ne.2 hz
  have hleI:decide ((1000:Int)≤hi)=false:=by rw [decide_eq_false_iff_not];omega
  obtain⟨V,hV⟩:∃V,V=IntKind.u64.wrap (lo*18014398509481984):=⟨_,rfl⟩
  have hV2:V=lo*18014398509481984 % 18446744073709551616:=by rw [hV];simp [IntKind.wrap,IntKind.signed,IntKind.bits]
  have hV':IntKind.u64.wrap (lo*18014398509481984)=V:=hV.symm
  obtain⟨V1,hV1⟩:∃V1,V / 4294967296=V1:=⟨_,rfl⟩
  obtain⟨V0,hV0⟩:∃V0,bits .and .u64 V 4294967295=V0:=⟨_,rfl⟩
  have hV0':V % 4294967296=V0:=by rw [←hV0,and_mask32 V (by omega) (by omega)]
  have hA0:bits .and .u64 18014398509481984000 4294967295=0:=by rw [and_mask32 _ (by decide) (by decide)];decide
  obtain⟨U,hU⟩:∃U,bits .or .u64 (hi*18014398509481984) (lo / 1024)=U:=⟨_,rfl⟩
  have hU2:U=hi*18014398509481984+lo / 1024:=by
   have h:=or_pow 54 hi (lo / 1024) h0 (by simp only [show((2 ^ 54:Nat):Int)=18014398509481984 from rfl];omega) (by omega) (by simp only [show((2 ^ 54:Nat):Int)=18014398509481984 from rfl];omega) (by omega)
   simp only [show((2 ^ 54:Nat):Int)=18014398509481984 from rfl] at h
   rw [←hU,h];omega
  have u0:0≤U:=by omega
  have u1:U<4194304000*4294967296:=by omega
  obtain⟨q1,hq1⟩:∃q1,U.tdiv 4194304000=q1:=⟨_,rfl⟩
  have hq1':q1=U / 4194304000:=by rw [←hq1];exact Int.tdiv_eq_ediv_of_nonneg u0
  have q10:0≤q1:=by omega
  have q11:q1<4294967296:=by omega
  obtain⟨r1,hr1⟩:∃r1,U-q1*4194304000=r1:=⟨_,rfl⟩
  have r10:0≤r1:=by omega
  have r11:r1<4194304000:=by omega
  have v10:0≤V1:=by omega
  have v11:V1<4294967296:=by omega
  have qn:decide (4294967296≤q1)=false:=by rw [decide_eq_false_iff_not];omega
  obtain⟨X,hX⟩:∃X,X=r1*4294967296+V1:=⟨_,rfl⟩
  have x0:0≤X:=by omega
  have x1:X<18446744073709551616:=by omega
  have hxx:4294967296*r1+V1=X:=by omega
  have xn:decide (X<0)=false:=by rw [decide_eq_false_iff_not];omega
  obtain⟨A1,hA1⟩:∃A1,IntKind.u64.wrap (U*4294967296)=A1:=⟨_,rfl⟩
  obtain⟨A2,hA2⟩:∃A2,IntKind.u64.wrap (A1+V1)=A2:=⟨_,rfl⟩
  obtain⟨A3,hA3⟩:∃A3,IntKind.u64.wrap (q1*18014398509481984000)=A3:=⟨_,rfl⟩
  have hA4:IntKind.u64.wrap (A2-A3)=X:=by
   simp [IntKind.wrap,IntKind.signed,IntKind.bits] at hA1 hA2 hA3⊢
   omega
  obtain⟨q0,hq0⟩:∃q0,X.tdiv 4194304000=q0:=⟨_,rfl⟩
  have hq0':q0=X / 4194304000:=by rw [←hq0];exact Int.tdiv_eq_ediv_of_nonneg x0
  have q00:0≤q0:=by omega
  have q01:q0<4294967296:=by omega
  obtain⟨r0,hr0⟩:∃r0,X-q0*4194304000=r0:=⟨_,rfl⟩
  have r00:0≤r0:=by omega
  have r01:r0<4194304000:=by omega
  have qn0:decide (4294967296≤q0)=false:=by rw [decide_eq_false_iff_not];omega
  have v00:0≤V0:=by omega
  have v01:V0<4294967296:=by omega
  obtain⟨Y,hY⟩:∃Y,Y=r0*4294967296+V0:=⟨_,rfl⟩
  have y0:0≤Y:=by omega
  have y1:Y<18446744073709551616:=by omega
  have hyy:4294967296*r0+V0=Y:=by omega
  have yn:decide (Y<0)=false:=by rw [decide_eq_false_iff_not];omega
  obtain⟨B1,hB1⟩:∃B1,IntKind.u64.wrap (X*4294967296)=B1:=⟨_,rfl⟩
  obtain⟨B2,hB2⟩:∃B2,IntKind.u64.wrap (B1+V0)=B2:=⟨_,rfl⟩
  obtain⟨B3,hB3⟩:∃B3,IntKind.u64.wrap (q0*18014398509481984000)=B3:=⟨_,rfl⟩
  have hB4:IntKind.u64.wrap (B2-B3)=Y:=by
   simp [IntKind.wrap,IntKind.signed,IntKind.bits] at hB1 hB2 hB3⊢
   omega
  obtain⟨N,hN⟩:∃N,N=hi*18446744073709551616+lo:=⟨_,rfl⟩
  have hfin:q1*4294967296+q0=N / 1000∧Y / 18014398509481984=N % 1000:=by
   have k1:N*18014398509481984=U*18446744073709551616+V:=by omega
   have k2:N*18014398509481984=(q1*4294967296+q0)*18014398509481984000+Y:=by omega
   omega
  rw [←hN]
  obtain⟨HV,HV2,HU2,Hq1',HX,Hq0',HY,HN,Hfin⟩:=hid9 hV hV2 hU2 hq1' hX hq0' hY hN hfin;clear hfin hN hY hq0' hX hq1' hU2 hV2 hV;have HV0':=Lib.hid hV0';clear hV0'
  go_enter Tryz.func167,Tryz.ntmps167
  go_wp2_with (go_at_call 173;(with_reducible refine(lz64_3 _).mono ?_);rintro e w1 ⟨rfl,rfl⟩)
  go_loop [15,16] (fun x y=>x= .int .u64 q1∧y= .int .u64 r1) (fun _ _=>0)
  case atStart=>exact⟨rfl,rfl⟩
  case round=>
   obtain⟨rfl,rfl⟩:=hrel
   go_wp2
   go_loop [18,16] (fun x y=>x= .int .u64 q0∧y= .int .u64 r0) (fun _ _=>0)
   case atStart=>exact⟨rfl,rfl⟩
   case round=>
    obtain⟨rfl,rfl⟩:=hrel
    go_wp2
    exact bodyPost_ret (v:= .tuple #[.int .u64 (q1*4294967296+q0),.int .u64 (Y / 18014398509481984)]) (by simp [results,Tryz.results167,go_sem]) rfl ⟨by rw [Hfin.out.1,Hfin.out.2],Keeps.refl _ _⟩
open Go.Shelf Go.RowKit
def lays264_ren:Go.Shelf.Ren:=⟨fun|264=>165|n=>n,fun|53=>22|46=>53|n=>n,fun|n=>n⟩
theorem lays264:Go.Proofs.Lays.n264 Tryz.prog lays264_ren:={
 mixed:=by kernel_rfl
 f264:=Tryz.func165.trans (congrArg some (by kernel_rfl))
 t46:=Tryz.underlying53
 a46:=Tryz.isAgg53
 z46:=Tryz.sizeOf53
 v46:=Tryz.zeroValue53
 t53:=Tryz.underlying22
 a53:=Tryz.isAgg22
 z53:=Tryz.sizeOf22
 v53:=Tryz.zeroValue22 }
theorem mul64_any(x y:Int)(hx:0≤x)(hx':x<18446744073709551616)(hy:0≤y)(hy':y<18446744073709551616)(w:World):
  Calls Tryz.prog 165 #[.int .u64 x,.int .u64 y] w fun e w'=>e= .returned (.tuple #[.int .u64 (x*y / 18446744073709551616),.int .u64 (x*y % 18446744073709551616)])∧w=w':=by
 obtain⟨a,rfl⟩:=Int.eq_ofNat_of_zero_le hx
 obtain⟨b,rfl⟩:=Int.eq_ofNat_of_zero_le hy
 refine(Any.bits_Mul64 lays264 a b (by omega) (by omega) w).mono ?_
 rintro e w' ⟨rfl,rfl⟩
 refine⟨?_,rfl⟩
 congr 4
theorem add64_run(x y:Int)(hx:0≤x)(hx':x<18446744073709551616)(hy:0≤y)(hy':y<18446744073709551616)(w:World):
  (callFunc 166 #[.int .u64 x,.int .u64 y,.int .u64 0]).run Tryz.prog w= .ok (.value (.tuple #[.int .u64 ((x+y) % 18446744073709551616),.int .u64 ((x+y) / 18446744073709551616)])) w:=by
 obtain⟨a,rfl⟩:=Int.eq_ofNat_of_zero_le hx
 obtain⟨b,rfl⟩:=Int.eq_ofNat_of_zero_le hy
 have h:=run_add64 (P:=Tryz.prog) a b 0 (by omega) (by omega) (by omega) (by omega) w
 rw [run_callFunc_extern Tryz.func166 (by kernel_rfl) (by kernel_rfl) (by kernel_rfl) (e:=add64Entry) (by kernel_rfl)]
 rw [h]
 simp only [Result.andThen,Int.add_zero]
def evenI(N D:Int):Int:=if 2*(N % D)<D∨(2*(N % D)=D∧N / D % 2=0) then N / D else N / D+1
theorem cashEven_go(hi lo D N:Int)(hD:0<D)(hD2:D<4294967296)(hN:hi*18446744073709551616+lo=N)(_:0≤hi)(h1:hi<D)(_:0≤lo)(_:lo<18446744073709551616)(hq:N / D<1000000000000000000)(hr:0≤N % D∧N % D<D)(hq0:0≤N / D)
  (hdiv:∀w,Calls Tryz.prog 167 #[.int .u64 hi,.int .u64 lo,.int .u64 D] w fun e w'=>e= .returned (.tuple #[.int .u64 (N / D),.int .u64 (N % D)])∧Keeps (fun _=>False) w w') (w:World):
  Calls Tryz.prog 151 #[.int .u64 hi,.int .u64 lo,.int .u64 D] w fun e w'=>e= .returned (.tuple #[.int .u64 (evenI N D),.bool true])∧Keeps (fun _=>False) w w':=by
 obtain⟨Z,hZ⟩:∃Z,evenI N D=Z:=⟨_,rfl⟩
 rw [hZ]
 unfold evenI at hZ
 obtain⟨q,hqq⟩:∃q,N / D=q:=⟨_,rfl⟩
 obtain⟨r,hrr⟩:∃r,N % D=r:=⟨_,rfl⟩
 rw [hqq] at hq hq0 hdiv hZ
 rw [hrr] at hr hdiv hZ
 obtain⟨r0,r1⟩:=hr
 have hdn:¬D≤hi:=by omega
 by_cases c1:r<D-r
 ·have c1I:decide (r<D-r)=true:=by rw [decide_eq_true_iff];exact c1
  rw [if_pos (by omega)] at hZ
  subst hZ
  clear c1
  exact jZ39
 ·have c1I:decide (r<D-r)=false:=by rw [decide_eq_false_iff_not];exact c1
  by_cases c2:r=D-r
  ·have c2I:(r==D-r)=true:=by rw [beq_iff_eq];exact c2
   by_cases c3:q % 2=0
   ·have c3I:(q % 2==0)=true:=by rw [beq_iff_eq];exact c3
    rw [if_pos (by omega)] at hZ
    subst hZ
    clear c1 c2 c3
    exact jZ39
   ·have c3I:(q % 2==0)=false:=beq_eq_false_iff_ne.2 c3
    rw [if_neg (by omega)] at hZ
    subst hZ
    clear c1 c2 c3
    exact jZ35
  ·have c2I:(r==D-r)=false:=beq_eq_false_iff_ne.2 c2
   rw [if_neg (by omega)] at hZ
   subst hZ
   clear c1 c2
   exact jZ35
theorem even9(N:Int)(n0:0≤N)(n1:N<1000000000000000000000000000)(w:World):
  Calls Tryz.prog 151 #[.int .u64 (N / 18446744073709551616),.int .u64 (N % 18446744073709551616),.int .u64 1000000000] w fun e w'=>e= .returned (.tuple #[.int .u64 (evenI N 1000000000),.bool true])∧Keeps (fun _=>False) w w':=by
 have e1:N / 18446744073709551616*18446744073709551616+N % 18446744073709551616=N:=by omega
 refine cashEven_go _ _ _ N (by decide) (by decide) e1 (by omega) (by omega) (by omega) (by omega) (by omega) (by omega) (by omega) (fun w=> ?_) w
 have h:=div64_9 (N / 18446744073709551616) (N % 18446744073709551616) w (by omega) (by omega) (by omega) (by omega)
 rw [e1] at h
 exact h
theorem even3(N:Int)(n0:0≤N)(n1:N≤1000000000000000000)(w:World):
  Calls Tryz.prog 151 #[.int .u64 (N / 18446744073709551616),.int .u64 (N % 18446744073709551616),.int .u64 1000] w fun e w'=>e= .returned (.tuple #[.int .u64 (evenI N 1000),.bool true])∧Keeps (fun _=>False) w w':=by
 have e1:N / 18446744073709551616*18446744073709551616+N % 18446744073709551616=N:=by omega
 refine cashEven_go _ _ _ N (by decide) (by decide) e1 (by omega) (by omega) (by omega) (by omega) (by omega) (by omega) (by omega) (fun w=> ?_) w
 have h:=div64_3 (N / 18446744073709551616) (N % 18446744073709551616) w (by omega) (by omega) (by omega) (by omega)
 rw [e1] at h
 exact h
theorem evenI_bd{N D M:Int}(hD:0<D)(h0:0≤N)(h:N≤M*D):0≤evenI N D∧evenI N D≤M:=by
 have h1:0≤N % D:=Int.emod_nonneg _ (by omega)
 have h2:N % D<D:=Int.emod_lt_of_pos _ hD
 have h3:N / D*D+N % D=N:=Int.ediv_mul_add_emod N D
 have h4:0≤N / D:=Int.ediv_nonneg h0 (by omega)
 have h5:N / D≤M:=Int.ediv_le_of_le_mul hD h
 unfold evenI
 split
 ·exact⟨h4,h5⟩
 ·rename_i hn
  refine⟨by omega, ?_⟩
  rcases Int.lt_or_eq_of_le h5 with h6|h6
  ·omega
  ·exfalso;rw [h6] at h3;omega
theorem cashShare_go(a num:Int)(h0:0≤a)(h1:a≤1000000000000000)(n0:0≤num)(n1:num≤1000)(w:World):
  Calls Tryz.prog 153 #[.int .i64 a,.int .i64 num,.int .i64 1000] w fun e w'=>e= .returned (.tuple #[.int .i64 (evenI (a*num) 1000),.int .i64 0])∧Keeps (fun _=>False) w w':=by
 have hN0:0≤a*num:=Int.mul_nonneg h0 n0
 have hN1:a*num≤1000000000000000*1000:=Int.mul_le_mul h1 n1 n0 (by decide)
 have hmay:=fun W=>cashMay_at (v:=a) (b:=true) ((mayS_iff a).2 (by omega)) W
 have hmul:=fun W=>mul64_any a num h0 (by omega) n0 (by omega) W
 have hev:=even3 (a*num) hN0 (by omega)
 obtain⟨N,hN⟩:∃N,a*num=N:=⟨_,rfl⟩
 rw [hN] at hN0 hN1 hmul hev⊢
 have hbd:=evenI_bd (N:=N) (D:=1000) (M:=1000000000000000) (by decide) hN0 hN1
 obtain⟨Z,hZ⟩:∃Z,evenI N 1000=Z:=⟨_,rfl⟩
 rw [hZ] at hev hbd⊢
 obtain⟨z0,z1⟩:=hbd
 have zn:decide (1000000000000000<Z)=false:=by rw [decide_eq_false_iff_not];omega
 have an:¬a<0:=by omega
 obtain⟨A,hA⟩:∃A,N / 18446744073709551616=A:=⟨_,rfl⟩
 obtain⟨B,hB⟩:∃B,N % 18446744073709551616=B:=⟨_,rfl⟩
 rw [hA,hB] at hmul hev
 obtain⟨Hmay,Hmul,Hev,HN,HA,HB,HZ⟩:=hid7 hmay hmul hev hN hA hB hZ;clear hZ hB hA hN hev hmul hmay
 go_enter Tryz.func153,Tryz.ntmps153
 go_wp2_with (first|(go_at_call 133;(with_reducible refine(Hmay.out _).mono ?_);rintro e w1 ⟨rfl,rfl⟩)|(go_at_call 165;(with_reducible refine(Hmul.out _).mono ?_);rintro e w1 ⟨rfl,rfl⟩)|(go_at_call 151;(with_reducible refine(Hev.out _).mono ?_);rintro e w1 ⟨rfl,hk1⟩;have Hk1:=Lib.hid hk1;clear hk1))
 exact bodyPost_ret (v:= .tuple #[.int .i64 Z,.int .i64 0]) (by simp [results,Tryz.results153,go_sem]) rfl ⟨rfl,Hk1.out⟩
def outM(m v:Int):Bool:=decide (v<0)||decide (m<v)
set_option maxHeartbeats 400000
theorem intWithin1_any(B:Nat)(m x:Int)(w:World)(hB:w.cell? ⟨B,0,none⟩=some (.int .i64 m)):Calls Tryz.prog 172 #[.int .i64 x,(.pointer (some ⟨B,0,none⟩))] w fun e w'=>e= .returned (.bool (outM m x))∧w=w':=by
 have hl:=Ag hB
 by_cases h1:x<0
 ·have hf:outM m x=true:=by simp [outM];omega
  have h1I:decide (x<0)=true:=by simp [h1]
  exact jZ90
 ·have h1I:decide (x<0)=false:=by simp [h1]
  have hf:outM m x=decide (m<x):=by simp [outM,h1I]
  rcases h2:decide (m<x) with _|_
  ·rw [h2] at hf
   exact jZ90
  ·rw [h2] at hf
   exact jZ90
end Go.Proofs.YthffbjldpfionaaGreat
