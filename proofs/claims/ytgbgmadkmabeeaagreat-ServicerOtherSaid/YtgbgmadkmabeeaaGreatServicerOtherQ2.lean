/- Part 2 of the proof of ServicerOther: walks and plain laws. -/
import Derived.Test.YtgbgmadkmabeeaaGreatServicerOtherQ1
set_option maxRecDepth 100000
set_option maxHeartbeats 6400000
namespace Go.Proofs.YtgbgmadkmabeeaaGreat
open Go.RowKit
theorem servicerOther_walk(w:World)(t:Tm)(adt:Option Addr)(ct:Nat)(htr:Reads w 2 (.slice adt t.trs.length ct) t.trs.length (t.trs.flatMap Tn.cells))(htm:t.trs.length<=maxLen)(u:Tm)(adu:Option Addr)(cu:Nat)(hur:Reads w 2 (.slice adu u.trs.length cu) u.trs.length (u.trs.flatMap Tn.cells))(hum:u.trs.length<=maxLen):
  Calls Tryz.prog 6 #[t.val (.slice adt t.trs.length ct),u.val (.slice adu u.trs.length cu)] w λe w'=>e= .returned (.bool true)/\Below w.heap.size w w':=by
 obtain⟨P1,hP1⟩:∃P,playT t=P:=⟨_,rfl⟩;obtain⟨P2,hP2⟩:∃P,playT u=P:=⟨_,rfl⟩;have hr1:=playT_rep t;have hr2:=playT_rep u;have hz1:=(playT_ok t).1;have hz2:=(playT_ok u).1;have hpt:=λW (hW:Keeps (λ_=>False) w W)=>playTerms_any t adt ct _ W rfl (htr.keeps hW (by simp)) htm;have hpu:=λW (hW:Keeps (λ_=>False) w W)=>playTerms_any u adu cu _ W rfl (hur.keeps hW (by simp)) hum;rw [hP1] at hr1 hz1 hpt;rw [hP2] at hr2 hz2 hpu;obtain⟨n,hn⟩:∃n,t.trs.length=n:=⟨_,rfl⟩;obtain⟨m,hm⟩:∃n,u.trs.length=n:=⟨_,rfl⟩;have hT:t.val (.slice adt n ct)= .agg (t.arr (.slice adt n ct)):=rfl;have hU:u.val (.slice adu m cu)= .agg (u.arr (.slice adu m cu)):=rfl;rw [hn] at hpt htr⊢;rw [hm] at hpu hur⊢;rw [hT,hU];obtain⟨T,hTe⟩:∃T,t.arr (.slice adt n ct)=T:=⟨_,rfl⟩;obtain⟨U,hUe⟩:∃U,u.arr (.slice adu m cu)=U:=⟨_,rfl⟩;have hpt':∀W,Keeps (λ_=>False) w W->Calls Tryz.prog 34 #[.agg T] W λe w'=>∃v,e= .returned (.agg (P1.arr v))/\Reads w' 2 v P1.trs.length (P1.trs.flatMap Tn.cells)/\Keeps (λ_=>False) W w'/\(v= .slice adt n ct\/∀g,v.ownBlock=some g->W.heap.size<=g):=by rw [<-hTe];exact hpt
 have hpu':∀W,Keeps (λ_=>False) w W->Calls Tryz.prog 34 #[.agg U] W λe w'=>∃v,e= .returned (.agg (P2.arr v))/\Reads w' 2 v P2.trs.length (P2.trs.flatMap Tn.cells)/\Keeps (λ_=>False) W w'/\(v= .slice adu m cu\/∀g,v.ownBlock=some g->W.heap.size<=g):=by rw [<-hUe];exact hpu
 have hTs:T.size=7:=by rw [<-hTe];rfl
 have hUs:U.size=7:=by rw [<-hUe];rfl
 rw [hTe,hUe];clear hpt hpu hT hU hTe hUe;obtain⟨Htr,Hur,HP1,HP2,Hr1,Hr2,Hz1,Hz2,Hpt'⟩:=hid9 htr hur hP1 hP2 hr1 hr2 hz1 hz2 hpt';clear hpt' hz2 hz1 hr2 hr1 hP2 hP1 hur htr;obtain⟨Hpu',Hn,Hm,HTs,HUs⟩:=hid5 hpu' hn hm hTs hUs;clear hUs hTs hm hn hpu';go_enter Tryz.func6,Tryz.ntmps6
 go_upto_region 1 with fail
 refine Kt λw0 hw0=> ?_;have hb0:so1 w.heap.size (w.heap.size+1) T U w0:=by rw [hw0];exact⟨Ad (heap_alloc_new w _) (Keeps.alloc (S:=λ_=>False) _ _) (by simp),Gu w _ _⟩
 have hk0:Keeps (λ_=>False) w w0:=by rw [hw0];exact Keeps.nt (Keeps.alloc _ _) (Keeps.alloc _ _)
 clear hw0;obtain⟨Hb0,Hk0⟩:=hid2 hb0 hk0;clear hk0 hb0;refine Cf (λW=>W.heap[w.heap.size+1]?=some (.cells U 44 (0,0))) 5 (.take 2 (.move 0 (.move 1 (.move 3 (.move 4 (.move 5 .done)))))) yy3 yy3 ?_ ?_
 ·exact(Hb0.out.keep (Keeps.drew _)).2
 intro w1 hu1 hk1;have hs1:=Hb0.out.keep hk1;clear hu1;refine Dj rfl (by rfl) (w.heap.size+1) rfl 44 U _ _ (λw h=>h) Tryz.underlying44 rfl (by rw [HUs.out];exact size_tTerms) ?_
 try simp only [aps]
 refine Ah rfl (λK hK=> ?_);refine wp_load_row 44 (.tmp 2) rfl w.heap.size rfl 44 T _ _ hs1.1 Tryz.underlying44 rfl (by rw [HTs.out];exact size_tTerms) ?_;refine hK.out _ _ (by exact hs1.2) ?_;clear hK K
 try simp only [aps]
 refine Ah rfl (λK hK=> ?_);go_simp
 go_at_call 34
 ((with_reducible refine((Hpt'.out w1 (Hk0.out.nt hk1))).mono ?_);rintro e w2 ⟨v1,rfl,hrd1,hk2,hfr1⟩)
 dsimp only;have hs2:=hs1.keep hk2;refine hK.out _ _ (by exact hs2.2) ?_;clear hK K
 try simp only [aps]
 refine Ah rfl (λK hK=> ?_);go_simp
 go_at_call 34
 ((with_reducible refine((Hpu'.out w2 ((Hk0.out.nt hk1).nt hk2))).mono ?_);rintro e w3 ⟨v2,rfl,hrd2,hk3,hfr2⟩)
 dsimp only;have hs3:=hs2.keep hk3;refine hK.out _ _ (by exact hs3.2) ?_;clear hK K
 try simp only [aps]
 obtain⟨av1,cv1,rfl,_⟩:=id hrd1;obtain⟨av2,cv2,rfl,_⟩:=id hrd2;have hne:w.heap.size+1≠w.heap.size:=yy2;have hu4:(w3.setRow w.heap.size (P1.arr (.slice av1 P1.trs.length cv1))).heap[w.heap.size+1]?=some (.cells U 44 (0,0)):=by rw [setRow_other _ _ _ _ hne];exact hs3.2
 refine Ah rfl (λK hK=> ?_);refine wp_store_row 44 (.tmp 2) (.tmp 13) rfl w.heap.size (P1.arr (.slice av1 P1.trs.length cv1)) rfl rfl 44 T hs3.1 size_tTerms (by rw [HTs.out];rfl) (by simp [Tm.arr,Value.oneCell']) ?_;refine hK.out _ _ (by exact hu4) ?_;clear hK K
 try simp only [aps]
 refine Cj rfl (λK hK=> ?_);refine wp_store_row 44 (.tmp 3) (.tmp 15) rfl (w.heap.size+1) (P2.arr (.slice av2 P2.trs.length cv2)) rfl rfl 44 U hu4 size_tTerms (by rw [HUs.out];rfl) (by simp [Tm.arr,Value.oneCell']) ?_;refine hK.out _ _ ?_;clear hK K
 try simp only [aps]
 refine Ap ?_;refine Le λW4 hW4=> ?_;obtain⟨l1,l8⟩:=Aa1 Hz1.out;obtain⟨l2,l9⟩:=Aa1 Hz2.out;have hA:w.heap.size<w0.heap.size:=lt_of_block Hb0.out.1;have hB:w.heap.size+1<w0.heap.size:=lt_of_block Hb0.out.2
 have hk34:Keeps (λi=>i=w.heap.size\/i=w.heap.size+1) w3 W4:=by
  rw [hW4];exact((Ca _ _ _).mono λi _ e=> .inl e).trans ((Ca _ _ _).mono λi _ e=> .inl (.inr e))
 have hs4:so1 w.heap.size (w.heap.size+1) (P1.arr (.slice av1 P1.trs.length cv1)) (P2.arr (.slice av2 P2.trs.length cv2)) W4:=by
  rw [hW4];exact⟨by rw [setRow_other _ _ _ _ hne.symm];exact setRow_heap _ _ _ _ _ _ hs3.1,setRow_heap _ _ _ _ _ _ hu4⟩
 have hk03:=(Hk0.out.nt hk1).nt (hk2.nt hk3);have hk4:Keeps (λ_=>False) w W4:=hk03.trans (hk34.mono λi _ e=> .inr (by rcases e with e|e<;>omega))
 have hs01:=Hk0.out.size;have hs11:=hk1.size;have hs12:=hk2.size
 have hrd1':Reads W4 2 (.slice av1 P1.trs.length cv1) P1.trs.length (P1.trs.flatMap Tn.cells):=(hrd1.keeps hk3 (by simp)).keeps hk34 λg hg e=>by
  have:=tm_far hfr1 l1 Htr.out Hn.out g hg;rcases e with e|e<;>omega
 have hrd2':Reads W4 2 (.slice av2 P2.trs.length cv2) P2.trs.length (P2.trs.flatMap Tn.cells):=hrd2.keeps hk34 λg hg e=>by
  have:=tm_far hfr2 l2 Hur.out Hm.out g hg;rcases e with e|e<;>omega
 clear hW4 hs1 hs2 hs3 hu4 hk1 hk2 hk3 hk34 hk03 hrd1 hrd2 hfr1 hfr2 hA hB hs01 hs11 hs12;have hnew:=Ll 60 W4 yy1 yy1;rw [show(((60:Nat):Int))=60 from rfl] at hnew;obtain⟨Hs4,Hk4,Hrd1',Hrd2',Hnew⟩:=hid5 hs4 hk4 hrd1' hrd2' hnew;clear hnew hrd2' hrd1' hk4 hs4;go_wp2_with fail;refine Hnew.out.mono ?_;rintro e w5 ⟨g,rfl,hp5,hk5,hg⟩;obtain⟨P,hP⟩:∃P,W4.heap.size+1=P:=⟨_,rfl⟩;rw [hP] at hp5⊢;have hs5:=Hs4.out.keep hk5
 have hsep:∀(r:Value) (n:Nat) (X:List Tn),Reads W4 2 r n (X.flatMap Tn.cells)->X.length=n->1<=n->∀k,r.ownBlock=some k->¬PFoot P (.slice (some ⟨g,0,none⟩) 60 60) k:=λr n X h1 h2 h3 k hk e=>by
  have:=reads_pos h1 h2 h3 k hk;rcases e with e|e
  ·omega
  ·have e':g=k:=Option.some.inj e;omega
 have hop:=Ya P1 av1 cv1 P _ _ w5 (Hrd1'.out.keeps hk5 (by simp)) (hsep _ _ _ Hrd1'.out rfl l1) Hr1.out hp5 rfl rfl (λx hx=>by rw [List.eq_of_mem_replicate hx];rfl) (by show(0:Int)+1<=1000000;decide) (by rw [tpack_len];simp;unfold chunks;omega);have hv1:P1.val (.slice av1 P1.trs.length cv1)= .agg (P1.arr (.slice av1 P1.trs.length cv1)):=rfl;rw [hv1] at hop;obtain⟨A1,hA1⟩:∃A,P1.arr (.slice av1 P1.trs.length cv1)=A:=⟨_,rfl⟩;have hA1s:A1.size=7:=by rw [<-hA1];rfl
 rw [hA1] at hs5 hop;clear hv1;obtain⟨Hp5,Hk5,Hs5,Hop,Hsep,HA1,HA1s,Hg,HP⟩:=hid9 hp5 hk5 hs5 hop hsep hA1 hA1s hg hP;clear hP hg hA1s hA1 hsep hop hs5 hk5 hp5
 go_wp2_with (refine wpList_load_row rfl 44 (.tmp 2) rfl w.heap.size rfl 44 A1 _ _ Hs5.out.1 Tryz.underlying44 rfl yd ?_)
 refine Hop.out.mono ?_;rintro e w6 ⟨q,R',rfl,hqP,hqv,hS6,hk6,_,_⟩;have hw4:=Hk4.out.size;have hw5:=Hk5.out.size
 have hkw6:Keeps (λ_=>False) w w6:=(Hk4.out.nt Hk5.out).trans (hk6.mono λi _ e=> .inr (by
  have h1:=HP.out;have h2:=Hg.out;rcases e with e|e
  ·omega
  ·have e':g=i:=Option.some.inj e
   omega))
 have hs6:=Hs5.out.pf Hp5.out hk6;have hrd6:Reads w6 2 (.slice av2 P2.trs.length cv2) P2.trs.length (P2.trs.flatMap Tn.cells):=(Hrd2'.out.keeps Hk5.out (by simp)).keeps hk6 (Hsep.out _ _ _ Hrd2'.out rfl l2);have hrd61:Reads w6 2 (.slice av1 P1.trs.length cv1) P1.trs.length (P1.trs.flatMap Tn.cells):=(Hrd1'.out.keeps Hk5.out (by simp)).keeps hk6 (Hsep.out _ _ _ Hrd1'.out rfl l1);obtain⟨p',hp'⟩:∃p',inkP 0 (Dr P1) ⟨List.replicate 60 lf0,0,0,false⟩=p':=⟨_,rfl⟩;have hroom:chunks (Dr P1).length<=60:=by rw [tpack_len];unfold chunks;omega
 have hone:OneRec p' (Dr P1):=by
  rw [<-hp'];exact oneRec_ink (λx hx=>by rw [List.eq_of_mem_replicate hx];rfl) (by simpa using hroom)
 have hpl:p'.l.length=60:=by rw [<-hp',Rm,List.length_replicate]
 have hpd:p'.dn=false:=by rw [<-hp'];rfl
 have hps:p'.sn=0:=by rw [<-hp'];rfl
 have hpf:p'.fl=0:=by rw [<-hp'];rfl
 rw [hp'] at hS6;have hpad6:=hS6.pad;rw [hqP,hqv] at hpad6;clear hk6 hp';obtain⟨HS6,Hkw6,Hs6,Hrd6,Hrd61,Hone,Hpl,Hpd,Hps⟩:=hid9 hS6 hkw6 hs6 hrd6 hrd61 hone hpl hpd hps;clear hps hpd hpl hone hrd61 hrd6 hs6 hkw6 hS6;obtain⟨Hpf,Hpad6,HqP,Hroom⟩:=hid4 hpf hpad6 hqP hroom;clear hroom hqP hpad6 hpf;go_wp2_with fail;refine(Rx w6).mono ?_;rintro e w7 ⟨rfl,hk7⟩;have hpa:=svPad_any q p' _ _ 1 R' _ w7 (HS6.out.keep0 hk7);rw [HqP.out] at hpa;have hkw7:=Hkw6.out.nt hk7;have hs7:=Hs6.out.keep hk7;have hpad7:=Hpad6.out.keeps hk7 (by simp);have hrd7:=Hrd6.out.keeps hk7 (by simp);have hrd71:=Hrd61.out.keeps hk7 (by simp);clear hk7;obtain⟨Hpa,Hkw7,Hs7,Hpad7,Hrd7,Hrd71⟩:=hid6 hpa hkw7 hs7 hpad7 hrd7 hrd71;clear hrd71 hrd7 hpad7 hs7 hkw7 hpa;have hnq:=λW=>neq_same ⟨P,0,none⟩ W
 go_upto_region 6 with(go_at_call 35;(with_reducible refine Hpa.out.mono ?_);rintro e w8 ⟨rfl,hw8⟩;subst hw8)
 clear hnq;obtain⟨A2,hA2⟩:∃A,P2.arr (.slice av2 P2.trs.length cv2)=A:=⟨_,rfl⟩;have hA2s:A2.size=7:=by rw [<-hA2];rfl
 have hs7:=Hs7.out;rw [hA2] at hs7;obtain⟨v,hv⟩:∃v,Value.slice (some ⟨g,0,none⟩) 60 60=v:=⟨_,rfl⟩;have hpad7:=Hpad7.out;have hsep7:=Hsep.out _ _ _ Hrd2'.out rfl l2;have hsep71:=Hsep.out _ _ _ Hrd1'.out rfl l1;rw [hv] at hpad7 hsep7 hsep71
 have hfoot:∀k,PFoot P v k->w.heap.size<=k:=λk e=>by
  have h0:=Hk4.out.size;have h1:=HP.out;have h2:=Hg.out;rcases e with e|e
  ·omega
  ·rw [<-hv] at e;have e':g=k:=Option.some.inj e;omega
 have hsm:=λW h1 h2=>sameTerms_any P1 P2 (.slice av1 P1.trs.length cv1) (.slice av2 P2.trs.length cv2) W h1 h2 yy0;have hop2:=λR hR1 hR2=>svOpen_one P2 (Dr P1) R av2 cv2 P v p' w8 Hrd7.out hsep7 Hr2.out hpad7 Hpd.out Hps.out Hone.out (by rw [Hpf.out];decide) (tpack_ok P1) (by rw [tpack_len];omega) (by rw [tpack_len];omega) (by rw [Hpl.out];exact Hroom.out) hR1 hR2;have hv1:P1.val (.slice av1 P1.trs.length cv1)= .agg A1:=by rw [<-HA1.out];rfl
 have hv2:P2.val (.slice av2 P2.trs.length cv2)= .agg A2:=by rw [<-hA2];rfl
 rw [hv2] at hop2;rw [hv1,hv2] at hsm;have hbad:=λW=>svOpen_bad ⟨0,0,0,0,0,0, []⟩ none 0 P W (Reads.nil W 2) yy1 (by decide+kernel);simp only [Tm.val,List.length_nil] at hbad;clear hv1 hv2 hv;obtain⟨Hs7,Hpad7,Hsep7,Hsep71,Hfoot,Hsm,Hop2,Hbad,HA2⟩:=hid9 hs7 hpad7 hsep7 hsep71 hfoot hsm hop2 hbad hA2;clear hA2 hbad hop2 hsm hfoot hsep71 hsep7 hpad7 hs7;have HA2s:=Lib.hid hA2s;clear hA2s;by_cases he:P1=P2
 ·have hop3:=Hop2.out (λe w'=>∃S,e= .returned (.tuple #[(.pointer (some ⟨S,0,none⟩)),.int .i64 0])/\Keeps (PFoot P v) w8 w') (λ_ e w' h=>by
   obtain⟨q,R',rfl,_,_,_,hk,_⟩:=h
   exact⟨_,rfl,hk⟩) (λh=>absurd (by rw [he]) h)
  obtain⟨Hop3,He⟩:=hid2 hop3 he;clear he hop3
  go_wp2_with (refine wpList_load_row rfl 44 (.tmp 3) rfl (w.heap.size+1) rfl 44 A2 _ _ Hs7.out.2 Tryz.underlying44 rfl y9 ?_)
  refine Hop3.out.mono ?_;rintro e w9 ⟨S,rfl,hk9⟩;refine yk ?_;intro hs9 hsm9 hkw9;unfold TmEq at hsm9;clear hk9;obtain⟨Hs9,Hsm9,Hkw9⟩:=hid3 hs9 hsm9 hkw9;clear hkw9 hsm9 hs9
  go_wp2_with (first|(refine wpList_load_row rfl 44 (.tmp 2) rfl w.heap.size rfl 44 A1 _ _ Hs9.out.1 Tryz.underlying44 rfl yd ?_)|(refine wpList_load_row rfl 44 (.tmp 3) rfl (w.heap.size+1) rfl 44 A2 _ _ Hs9.out.2 Tryz.underlying44 rfl y9 ?_)|(go_at_call 36;(with_reducible refine Hsm9.out.mono ?_);rintro e w10 ⟨r,rfl,hre,hk10⟩;obtain rfl:r=true:=(by have hh:=He.out;cases r<;>simp_all);have Hk10:=Lib.hid (Hkw9.out.nt hk10);clear hre hk10)|(go_at_call 20;(with_reducible refine(Hbad.out _).mono ?_);rintro e w11 ⟨rfl,hk11⟩;have Hk11:=Lib.hid hk11;clear hk11))
  go_ret;exact⟨rfl,(Hk10.out.nt Hk11.out).below (by simp) (Nat.le_refl _)⟩
 ·have hop3:=Hop2.out (λe w'=>e= .returned (.tuple #[.pointer none,.int .i64 6])/\Keeps (PFoot P v) w8 w') (λh=>absurd (tpackR_inj Hz2.out Hz1.out h).symm he) (λ_ e w' h1 _ h2=>⟨h1,h2⟩);obtain⟨Hop3,He⟩:=hid2 hop3 he;clear he hop3
  go_wp2_with (refine wpList_load_row rfl 44 (.tmp 3) rfl (w.heap.size+1) rfl 44 A2 _ _ Hs7.out.2 Tryz.underlying44 rfl y9 ?_)
  refine Hop3.out.mono ?_;rintro e w9 ⟨rfl,hk9⟩;refine yk ?_;intro hs9 hsm9 hkw9;unfold TmEq at hsm9;clear hk9;obtain⟨Hs9,Hsm9,Hkw9⟩:=hid3 hs9 hsm9 hkw9;clear hkw9 hsm9 hs9
  go_wp2_with (first|(refine wpList_load_row rfl 44 (.tmp 2) rfl w.heap.size rfl 44 A1 _ _ Hs9.out.1 Tryz.underlying44 rfl yd ?_)|(refine wpList_load_row rfl 44 (.tmp 3) rfl (w.heap.size+1) rfl 44 A2 _ _ Hs9.out.2 Tryz.underlying44 rfl y9 ?_)|(go_at_call 36;(with_reducible refine Hsm9.out.mono ?_);rintro e w10 ⟨r,rfl,hre,hk10⟩;obtain rfl:r=false:=(by have hh:=He.out;cases r<;>simp_all);have Hk10:=Lib.hid (Hkw9.out.nt hk10);clear hre hk10)|(go_at_call 20;(with_reducible refine(Hbad.out _).mono ?_);rintro e w11 ⟨rfl,hk11⟩;have Hk11:=Lib.hid hk11;clear hk11))
  go_ret;exact⟨rfl,(Hk10.out.nt Hk11.out).below (by simp) (Nat.le_refl _)⟩
end Go.Proofs.YtgbgmadkmabeeaaGreat
