/- Part 3 of what the laws of this seat share: walks of functions, and plain laws. -/
import Derived.Test.YthffbjldpfionaaGreatC2
namespace Go.Proofs.YthffbjldpfionaaGreat
open Go.RowKit
theorem jZ71{P:Prop}(h:P:=by
 have H:=Lib.hid h;clear h
 go_enter Tryz.func60,Tryz.ntmps60
 go_wp2
 go_ret
 exact⟨by rw [H.out];rfl,rfl⟩):P:=h
theorem jZ96{P:Prop}(h:P:=by
 go_enter Tryz.func120,Tryz.ntmps120
 go_wp2
 go_ret
 exact⟨rfl,rfl⟩):P:=h
theorem jZ24{P:Prop}(h:P:=by
 exact⟨congrArg Value.bool (decide_eq_true (by omega)).symm,rfl⟩):P:=h
theorem jZ115{P:Prop}(h:P:=by
 skip
 go_wp2_with fail
 go_meet
 exact jZ24):P:=h
theorem jZ15{P:Prop}(h:P:=by
 first|exact⟨congrArg Value.bool (decide_eq_false (by omega)).symm,rfl⟩|exact⟨congrArg Value.bool ((show _=false by simp;omega).trans (decide_eq_false (by omega)).symm),rfl⟩):P:=h
theorem jZ79{P:Prop}(h:P:=by
 go_ret
 exact⟨rfl,Keeps.nt (by(repeat (first|exact Keeps.refl _ _|exact Keeps.alloc _ _|exact Keeps.drew _|exact Keeps.drewN _ _|refine Keeps.Ap ?_|refine Keeps.Al ?_|refine Keeps.Ae ?_))) Hk1.out⟩):P:=h
theorem jZ19{P:Prop}(h:P:=by
 go_wp2_with fail
 go_step3
 go_wp2
 refine Az ?_
 go_wp2
 rw [Exit.noGoto_ret]
 exact jZ79):P:=h
theorem jZ103{P:Prop}(h:P:=by
 skip
 go_wp2_with fail
 go_meet
 have q10:=Q10.out
 exact jZ24):P:=h
theorem jZ58{P:Prop}(h:P:=by
 skip
 have hr:true=(decide (ki=4)||decide (ki=5)):=by simp [Q14.out]
 have HR:=Lib.hid hr;clear hr
 go_wp2_with (go_at_call 120;((with_reducible refine(Dm ki _ true HR.out).mono ?_);rintro e w2 ⟨rfl,rfl⟩))
 go_meet
 have q14:=Q14.out
 exact jZ24):P:=h
theorem jZ53{P:Prop}(h:P:=by
 skip
 have hr:true=(decide (ki=4)||decide (ki=5)):=by simp [Q16.out]
 have HR:=Lib.hid hr;clear hr
 go_wp2_with (go_at_call 120;((with_reducible refine(Dm ki _ true HR.out).mono ?_);rintro e w2 ⟨rfl,rfl⟩))
 go_meet
 have q14:=Q14.out
 have q16:=Q16.out
 exact jZ24):P:=h
theorem jZ9{P:Prop}(h:P:=by
 subst hzz
 obtain⟨Hr,Hz,Htm,Hsh,Hq,B0,Hn⟩:=hid7 hr hz htm hsh hq b0 hn;clear hn b0 hq hsh htm hz hr
 go_enter Tryz.func129,Tryz.ntmps129
 go_wp2_with fail
 refine Be 0 rfl ?_
 go_wp2_with fail
 refine(Htm.out _ (Keeps.alloc _ _)).mono ?_
 rintro e w1 ⟨rfl,hk1⟩
 have hb:=B0.out _ hk1
 have c5:=Aa hb 5
 have cl:=lt_of_block hb
 have Hk1:=Lib.hid ((Keeps.alloc w _).nt hk1)
 clear hk1 hb
 go_wp2_with fail
 refine(Hsh.out _).mono ?_
 rintro e w2 ⟨rfl,hk2⟩
 have Hk2:=Lib.hid (Hk1.out.nt hk2)
 clear hk2
 go_wp2
 refine Bl ?_
 exact bodyPost_ret (v:= .tuple #[.int .i64 total,.int .i64 0]) (by simp [results,Tryz.results129,go_sem]) rfl ⟨rfl,Hk2.out⟩):P:=h
theorem jZ111{P:Prop}(h:P:=by
 subst m2
 rw [show minI total total=total by unfold minI;rw [if_pos (by omega)]] at hzz
 exact jZ9):P:=h
theorem jZ20{P:Prop}(h:P:=by
 rcases Int.lt_trichotomy total mf with m2|m2|m2
 ·rw [show minI total mf=total by unfold minI;rw [if_pos (by omega)]] at hzz
  exact jZ9
 ·exact jZ111
 ·rw [show minI total mf=mf by unfold minI;rw [if_neg (by omega)]] at hzz
  subst hzz
  obtain⟨Hr,Hz,Htm,Hsh,Hq,B0,Hn⟩:=hid7 hr hz htm hsh hq b0 hn;clear hn b0 hq hsh htm hz hr
  go_enter Tryz.func129,Tryz.ntmps129
  go_wp2_with fail
  refine Be 0 rfl ?_
  go_wp2_with fail
  refine(Htm.out _ (Keeps.alloc _ _)).mono ?_
  rintro e w1 ⟨rfl,hk1⟩
  have hb:=B0.out _ hk1
  have c5:=Aa hb 5
  have cl:=lt_of_block hb
  have Hk1:=Lib.hid ((Keeps.alloc w _).nt hk1)
  clear hk1 hb
  go_wp2_with fail
  refine(Hsh.out _).mono ?_
  rintro e w2 ⟨rfl,hk2⟩
  have Hk2:=Lib.hid (Hk1.out.nt hk2)
  clear hk2
  go_wp2
  refine Bl ?_
  exact bodyPost_ret (v:= .tuple #[.int .i64 mf,.int .i64 0]) (by simp [results,Tryz.results129,go_sem]) rfl ⟨rfl,Hk2.out⟩):P:=h
theorem jZ40{P:Prop}(h:P:=by
 skip
 have hst:paidS f d (L.drop (k+1)) (1000000000000000)=R:=by rw [←HR2.out,Cn Hx.out];simp only [paidS];rw [if_pos (by simp [payQ];omega)];congr 1;unfold minI;split<;>omega
 have Hst:=Lib.hid hst;clear hst
 go_wp2_with fail
 go_step3
 go_wp2
 exact Az ⟨gpJ.mk (k+1) (1000000000000000) rfl (Hk.out.trans (Keeps.alloc _ _)) (by omega) (by omega) (by omega) Hst.out,by simp [slotNat9];omega⟩):P:=h
theorem jZ30{P:Prop}(h:P:=by
 have hst:paidS f d (L.drop (k+1)) s=R:=by rw [←HR2.out,Cn Hx.out];simp only [paidS];rw [if_neg (by simp [payQ];omega)]
 have Hst:=Lib.hid hst;clear hst
 go_wp2_with fail
 go_step3
 go_wp2
 exact Az ⟨gpJ.mk (k+1) s rfl (Hk.out.trans (Keeps.alloc _ _)) (by omega) s0 s1 Hst.out,by simp [slotNat9];omega⟩):P:=h
theorem jZ116{P:Prop}(h:P:=by
 have Hmn:=Lib.hid hmn;clear hmn
 go_wp2_with fail
 go_meet
 exact⟨by rw [Hmn.out],rfl⟩):P:=h
theorem jZ114{P:Prop}(h:P:=by
 go_wp2
 go_roundw
 case rel=>exact⟨i+1,by go_num,by omega,Hnew.out,Hkn.out⟩
 case measure=>simp [intOf];omega):P:=h
theorem jZ107{P:Prop}(h:P:=by
 go_wp2
 go_roundw
 case rel=>exact⟨j+1,by go_num,by omega,Hnew.out,Hkn.out⟩
 case measure=>simp [intOf];omega):P:=h
theorem jZ73{P:Prop}(h:P:=by
 have Hf:=Lib.hid hf;clear hf
 go_enter Tryz.func152,Tryz.ntmps152
 go_wp2_with (go_at_call 132;(with_reducible refine(Bo m3 _).mono ?_);rintro e w1 ⟨rfl,rfl⟩)
 go_ret
 exact⟨by rw [Hf.out];rfl,rfl⟩):P:=h
theorem jZ4{P:Prop}(h:P:=by
 go_enter Tryz.func128,Tryz.ntmps128
 go_wp2_with fail
 refine(Hri.out _ (by(repeat (first|exact Keeps.refl _ _|exact Keeps.alloc _ _|exact Keeps.drew _|exact Keeps.drewN _ _|refine Keeps.Ap ?_|refine Keeps.Al ?_|refine Keeps.Ae ?_)))).mono ?_
 rintro e w1 ⟨rfl,hk1⟩
 have hkw:Keeps (fun _=>False) w w1:=(by(repeat (first|exact Keeps.refl _ _|exact Keeps.alloc _ _|exact Keeps.drew _|exact Keeps.drewN _ _|refine Keeps.Ap ?_|refine Keeps.Al ?_|refine Keeps.Ae ?_)):Keeps (fun _=>False) w ((w.alloc (.cells #[.slice ad n cap,.int .i64 cr,.int .i64 du] 34)).alloc (.cells #[.slice none 0 0,.int .i64 0,.int .i64 0] 34))).nt hk1
 have hb1:=Hbx.out w1 ((Keeps.alloc _ _).nt hk1)
 have hrs:w1.heap[w.heap.size+1]?=some (.cells #[.slice none 0 0,.int .i64 0,.int .i64 0] 34 (0,0)):=Ad (Ay _ _ (by simp)) hk1 (by simp)
 have b0:=Aa hb1 0
 have b1:=Aa hb1 1
 have b2:=Aa hb1 2
 have bl:=lt_of_block hb1
 have hS3:=store3 hrs (.slice none 0 0) (.int .i64 0) (.int .i64 0)
 obtain⟨hb9,k9⟩:=hS3
 have r0:=Aa hrs 0
 have r1:=Aa hrs 1
 have r2:=Aa hrs 2
 have rf0:=Ab hrs 0
 have rf1:=Ab hrs 1
 have rf2:=Ab hrs 2
 have rl:=lt_of_block hrs
 have sr0:=Aa hb9 0
 have sr1:=Aa hb9 1
 have sr2:=Aa hb9 2
 obtain⟨Hrs,Hb9,K9,Sr0,Sr1,Sr2⟩:=hid6 hrs hb9 k9 sr0 sr1 sr2;clear sr2 sr1 sr0 k9 hb9 hrs
 obtain⟨Hk1,Hkw,Hb1⟩:=hid3 hk1 hkw hb1;clear hb1 hkw hk1
 go_wp2_with (go_at_call 140;(with_reducible refine(Hco.out _ Hkw.out).mono ?_);rintro e w2 ⟨rfl,rfl⟩)
 have R0':=Sr0.out
 have R1':=Sr1.out
 have R2':=Sr2.out
 clear r0 r1 r2
 exact bodyPost_ret (v:= .tuple #[.agg #[.slice none 0 0,.int .i64 0,.int .i64 0],.int .i64 1]) (by simp [results,Tryz.results128,go_sem,R0',R1',R2']) rfl ⟨_,rfl,⟨by simp [ps0],.inl ⟨rfl,rfl⟩⟩,Hkw.out.trans (K9.out.mono fun i _ e=> .inr (by have e':i=w.heap.size+1:=e;omega)),fun g hg=>by simp [Value.ownBlock] at hg⟩):P:=h
theorem jZ99{P:Prop}(h:P:=by
 obtain⟨Hr,HX,Hri,Hco,Hb,Hbx,He,HN,HM⟩:=hid9 hr hX hri hco hb hbx he hN hM;clear hM hN he hbx hb hco hri hX hr
 exact jZ4):P:=h
set_option maxRecDepth 100000
set_option maxHeartbeats 800000
theorem indexWithin_any(Bm:Nat)(m:Int)(ad:Option Addr)(cap:Nat)(L:List Int)(w:World)(hB:w.cell? ⟨Bm,0,none⟩=some (.int .i64 m))(hr:Reads w 1 (.slice ad L.length cap) L.length (L.flatMap i64c))(hl:L.length≤100000):
  Calls Tryz.prog 157 #[.slice ad L.length cap,.func (.func 172) #[] #[(.pointer (some ⟨Bm,0,none⟩))]] w fun e w'=>∃r:Int,e= .returned (.int .i64 r)∧decide (0≤r)=L.any (outM m)∧w=w':=by
 obtain⟨Hr,HB⟩:=hid2 hr hB;clear hB hr
 go_enter Tryz.func157,Tryz.ntmps157
 go_wp2_with fail
 go_loop [8] (fun c=>∃j:Nat,j≤L.length∧c= .int .i64 (j:Nat)∧(L.take j).any (outM m)=false) (fun c=>L.length-(intOf c).toNat)
 case atStart=>exact⟨0,Nat.zero_le _,rfl,rfl⟩
 case round=>
  obtain⟨j,hj,rfl,hok⟩:=hrel
  by_cases hjl:j<L.length
  ·obtain⟨x,hx⟩:=Av hjl
   obtain⟨g,o,rfl,x0⟩:=Hr.out.int hx
   have hsn:=any_take_snoc (q:=(outM m)) hx
   rw [hok] at hsn
   have hcl:=intWithin1_any Bm m x w HB.out
   rcases m1:outM m x with _|_
   ·have hok':(L.take (j+1)).any (outM m)=false:=by rw [hsn,m1];rfl
    rw [m1] at hcl
    obtain⟨Hsn,Hx,Hok,Hok',Hcl⟩:=hid5 hsn hx hok hok' hcl;clear hcl hok' hok hx hsn
    go_wp2_with (go_at_call 172;((with_reducible refine Hcl.out.mono ?_);rintro e w1 ⟨rfl,rfl⟩))
    exact jZ43
   ·have hf:=any_of_get (q:=(outM m)) hx m1
    have hj0:decide ((0:Int)≤(j:Int))=true:=by simp
    rw [m1] at hcl
    obtain⟨Hf,Hsn,Hx,Hj0,Hcl⟩:=hid5 hf hsn hx hj0 hcl;clear hcl hj0 hx hsn hf
    go_wp2_with (go_at_call 172;((with_reducible refine Hcl.out.mono ?_);rintro e w1 ⟨rfl,rfl⟩))
    exact jZ95
  ·exact jZ29
set_option maxHeartbeats 400000
theorem containsWithin_any(Bm:Nat)(m:Int)(ad:Option Addr)(cap:Nat)(L:List Int)(w:World)(hB:w.cell? ⟨Bm,0,none⟩=some (.int .i64 m))(hr:Reads w 1 (.slice ad L.length cap) L.length (L.flatMap i64c))(hl:L.length≤100000):
  Calls Tryz.prog 140 #[.slice ad L.length cap,.func (.func 172) #[] #[(.pointer (some ⟨Bm,0,none⟩))]] w fun e w'=>e= .returned (.bool (L.any (outM m)))∧w=w':=by
 obtain⟨Hr,HB⟩:=hid2 hr hB;clear hB hr
 go_enter Tryz.func140,Tryz.ntmps140
 go_wp2_with (go_at_call 157;refine(indexWithin_any Bm m _ _ L _ HB.out Hr.out hl).mono ?_;rintro e w1 ⟨r,rfl,hd,rfl⟩;have Hd:=Lib.hid hd;clear hd)
 exact jZ88
theorem intWithin_any(m:Int)(ad:Option Addr)(cap n:Nat)(L:List Int)(w:World)(hr:Reads w 1 (.slice ad n cap) n (L.flatMap i64c))(hN:L.length=n)(hl:n≤100000):
  Calls Tryz.prog 164 #[.slice ad n cap,.int .i64 m] w fun e w'=>e= .returned (.bool (!(L.any (outM m))))∧Keeps (fun _=>False) w w':=by
 subst hN
 have hc:=fun(W:World) (hB:W.cell? ⟨w.heap.size,0,none⟩=some (.int .i64 m)) (hW:Keeps (fun _=>False) w W)=>containsWithin_any w.heap.size m ad cap L W hB (hr.keeps hW (by simp)) hl
 obtain⟨z,hz⟩:∃z,L.any (outM m)=z:=⟨_,rfl⟩
 rw [hz] at hc⊢
 obtain⟨Hr,Hc,Hz⟩:=hid3 hr hc hz;clear hz hc hr
 go_enter Tryz.func164,Tryz.ntmps164
 go_wp2_with fail
 refine(Hc.out _ (Aa (heap_alloc_new w _) 0) (Keeps.alloc _ _)).mono ?_
 rintro e w1 ⟨rfl,rfl⟩
 go_wp2
 go_ret
 exact⟨rfl,Keeps.alloc _ _⟩
theorem outM_none{m:Int}{L:List Int}(h:∀x∈L,0≤x∧x≤m):L.any (outM m)=false:=by
 rw [Bool.eq_false_iff]
 intro hh
 obtain⟨x,hx,h2⟩:=List.any_eq_true.1 hh
 have:=h x hx
 simp [outM] at h2
 omega
def dotI:List Int→List Int→Int
 |x::X,y::Y=>x*y+dotI X Y
 |_,_=>0
theorem dotI_snoc:∀(X Y:List Int) (x y:Int),X.length=Y.length→dotI (X++ [x]) (Y++ [y])=dotI X Y+x*y:=by
 intro X
 induction X with
 |nil=>intro Y x y h;cases Y<;>simp_all [dotI]
 |cons a X ih=>
  intro Y x y h
  cases Y with
  |nil=>simp at h
  |cons b Y=>
   simp only [List.cons_append,dotI]
   rw [ih Y x y (by simpa using h)]
   omega
theorem dotI_take{X Y:List Int}{k:Nat}{x y:Int}(hl:X.length=Y.length)(hx:X[k]?=some x)(hy:Y[k]?=some y):dotI (X.take (k+1)) (Y.take (k+1))=dotI (X.take k) (Y.take k)+x*y:=by
 rw [take_snoc' hx,take_snoc' hy,dotI_snoc _ _ _ _ (by rw [List.length_take,List.length_take,hl])]
theorem prod_bd{x y:Int}(hx:0≤x∧x≤1000000000000000)(hy:0≤y∧y≤10000000):0≤x*y∧x*y≤10000000000000000000000:=
 ⟨Int.mul_nonneg hx.1 hy.1,Int.le_trans (Int.mul_le_mul hx.2 hy.2 hy.1 (by decide)) (by decide)⟩
theorem dotI_bd:∀(X Y:List Int),(∀x∈X,0≤x∧x≤1000000000000000)→(∀y∈Y,0≤y∧y≤10000000)→0≤dotI X Y∧dotI X Y≤10000000000000000000000*X.length:=by
 intro X
 induction X with
 |nil=>intro Y _ _;cases Y<;>simp [dotI]
 |cons a X ih=>
  intro Y hX hY
  cases Y with
  |nil=>simp only [dotI,List.length_cons];omega
  |cons b Y=>
   have h1:=ih Y (fun x hx=>hX x (List.mem_cons_of_mem _ hx)) (fun y hy=>hY y (List.mem_cons_of_mem _ hy))
   have h2:=prod_bd (hX a (List.mem_cons_self ..)) (hY b (List.mem_cons_self ..))
   simp only [dotI,List.length_cons]
   push_cast
   omega
theorem add64c_run(x y c:Int)(hx:0≤x)(hx':x<18446744073709551616)(hy:0≤y)(hy':y<18446744073709551616)(hc:0≤c)(hc':c≤1)(w:World):
  (callFunc 166 #[.int .u64 x,.int .u64 y,.int .u64 c]).run Tryz.prog w= .ok (.value (.tuple #[.int .u64 ((x+y+c) % 18446744073709551616),.int .u64 ((x+y+c) / 18446744073709551616)])) w:=by
 obtain⟨a,rfl⟩:=Int.eq_ofNat_of_zero_le hx
 obtain⟨b,rfl⟩:=Int.eq_ofNat_of_zero_le hy
 obtain⟨d,rfl⟩:=Int.eq_ofNat_of_zero_le hc
 have h:=run_add64 (P:=Tryz.prog) a b d (by omega) (by omega) (by omega) (by omega) w
 rw [run_callFunc_extern Tryz.func166 (by kernel_rfl) (by kernel_rfl) (by kernel_rfl) (e:=add64Entry) (by kernel_rfl)]
 rw [h]
 simp only [Result.andThen]
def ofR(X Y:List Int):Int×Int:=if 1000000000000000<evenI (dotI X Y) 1000000000 then(0,5) else(evenI (dotI X Y) 1000000000,0)
def exS(g1 o1 g2 o2:Nat)(x y:Int)(W:World):Prop:=W.cell? ⟨g1,o1,none⟩=some (.int .i64 x)∧W.cell? ⟨g2,o2,none⟩=some (.int .i64 y)
def exFr(v1 v2:Value)(hi lo:Int)(k:Nat)(u:Nat→Value):Act:={ tmps:= #[v1,v2,u 2,u 3,u 4,u 5,u 6,.int .u64 hi,.int .u64 lo,u 9,u 10,u 11,.int .i64 k,u 13,u 14,u 15,u 16,u 17,u 18,u 19,u 20,u 21,u 22,u 23,u 24,u 25,u 26,u 27,u 28,u 29,u 30,u 31,u 32,u 33,u 34,u 35,u 36,u 37,u 38,u 39,u 40,u 41,u 42,u 43,u 44,u 45,u 46,u 47,u 48,u 49,u 50,u 51,u 52,u 53,u 54,u 55,u 56,u 57,u 58,u 59,u 60,u 61,u 62,u 63,u 64,u 65,u 66,u 67],defers:= [] }
def exJ(w:World)(v1 v2:Value)(X Y:List Int)(n:Nat)(a':Act)(W:World):Prop:=∃(k:Nat) (N:Int) (u:Nat→Value),a'=exFr v1 v2 (N / 18446744073709551616) (N % 18446744073709551616) k u∧Keeps (fun _=>False) w W∧k≤n∧dotI (X.take k) (Y.take k)=N
theorem exJ.mk{w W:World}{v1 v2:Value}{X Y:List Int}{n:Nat}{a':Act}(k:Nat)(N:Int)(h:a'=exFr v1 v2 (N / 18446744073709551616) (N % 18446744073709551616) k (fun i=>a'.tmps.getD i undef))(hw:Keeps (fun _=>False) w W)(hn:k≤n)(hp:dotI (X.take k) (Y.take k)=N):exJ w v1 v2 X Y n a' W:=⟨k,N,_,h,hw,hn,hp⟩
def slotNat'(i:Nat)(a':Act):Nat:=match a'.tmps.getD i undef with| .int _ n=>n.toNat|_=>0
set_option maxHeartbeats 1600000
theorem intExact_any(X Y:List Int)(ad1 ad2:Option Addr)(c1 c2 n:Nat)(w:World)(hr1:Reads w 1 (.slice ad1 n c1) n (X.flatMap i64c))(hX:X.length=n)(hr2:Reads w 1 (.slice ad2 n c2) n (Y.flatMap i64c))(hY:Y.length=n)(hn:n≤40000)
  (hXb:∀x∈X,0≤x∧x≤1000000000000000) (hYb:∀y∈Y,0≤y∧y≤10000000):
  Calls Tryz.prog 150 #[.slice ad1 n c1,.slice ad2 n c2] w fun e w'=>e= .returned (.tuple #[.int .u64 (dotI X Y / 18446744073709551616),.int .u64 (dotI X Y % 18446744073709551616),.int .i64 0])∧Keeps (fun _=>False) w w':=by
 have hw1:=fun W (hW:Keeps (fun _=>False) w W)=>intWithin_any 1000000000000000 ad1 c1 n X W (hr1.keeps hW (by simp)) hX (by omega)
 have hw2:=fun W (hW:Keeps (fun _=>False) w W)=>intWithin_any 10000000 ad2 c2 n Y W (hr2.keeps hW (by simp)) hY (by omega)
 rw [outM_none hXb,Bool.not_false] at hw1
 rw [outM_none hYb,Bool.not_false] at hw2
 obtain⟨R,hR⟩:∃R,dotI X Y=R:=⟨_,rfl⟩
 rw [hR]
 have hnI:decide ((40000:Int)<(n:Int))=false:=by rw [decide_eq_false_iff_not];omega
 have hne:((n:Int) !=(n:Int))=false:=by simp
 obtain⟨Hr1,HX,Hr2,HY,HXb,HYb,Hw1,Hw2,HR⟩:=hid9 hr1 hX hr2 hY hXb hYb hw1 hw2 hR;clear hR hw2 hw1 hYb hXb hY hr2 hX hr1
 go_enter Tryz.func150,Tryz.ntmps150
 go_wp2
 refine Cs 0 (exJ w (.slice ad1 n c1) (.slice ad2 n c2) X Y n) (fun a' _=>n-slotNat' 12 a') rfl ?_ ?_
 ·rintro a' W ⟨k,N,u,rfl,hk,hkn,hN⟩
  unfold exFr
  have hbd:=dotI_bd (X.take k) (Y.take k) (fun x hx=>HXb.out x (List.mem_of_mem_take hx)) (fun y hy=>HYb.out y (List.mem_of_mem_take hy))
  rw [hN,List.length_take,HX.out] at hbd
  obtain⟨N0,N1⟩:=hbd
  have N2:N≤400000000000000000000000000:=by
   have:min k n≤40000:=by omega
   omega
  clear N1
  by_cases hlt:k<n
  ·have hltI:(k:Int)<(n:Int):=by omega
   have hneI:((k:Int)==(n:Int))=false:=beq_eq_false_iff_ne.2 (by omega)
   obtain⟨x,hx⟩:=Av (L:=X) (k:=k) (by rw [HX.out];exact hlt)
   obtain⟨y,hy⟩:=Av (L:=Y) (k:=k) (by rw [HY.out];exact hlt)
   obtain⟨g1,o1,he1,x0⟩:=(Hr1.out.keeps hk (by simp)).int (k:= .i64) hx
   obtain⟨g2,o2,he2,y0⟩:=(Hr2.out.keeps hk (by simp)).int (k:= .i64) hy
   subst he1
   subst he2
   have hS:exS g1 (o1+k) g2 (o2+k) x y W.drew:=⟨x0,y0⟩
   have xb:=HXb.out x (List.mem_of_getElem? hx)
   have yb:=HYb.out y (List.mem_of_getElem? hy)
   have pb:=prod_bd xb yb
   have hsn:=dotI_take (by rw [HX.out,HY.out]) hx hy
   rw [hN] at hsn
   have hmul:=fun W=>mul64_any x y xb.1 (by omega) yb.1 (by omega) W
   obtain⟨p,hp⟩:∃p,x*y=p:=⟨_,rfl⟩
   rw [hp] at pb hmul hsn
   have lx:=Ag x0
   have ly:=Ag y0
   obtain⟨A,hA⟩:∃A,p / 18446744073709551616=A:=⟨_,rfl⟩
   obtain⟨B,hB⟩:∃B,p % 18446744073709551616=B:=⟨_,rfl⟩
   obtain⟨Hi,hHi⟩:∃Hi,N / 18446744073709551616=Hi:=⟨_,rfl⟩
   obtain⟨Lo,hLo⟩:∃Lo,N % 18446744073709551616=Lo:=⟨_,rfl⟩
   rw [hA,hB] at hmul
   rw [hHi,hLo]
   have b1:0≤Lo∧Lo<18446744073709551616:=by omega
   have b2:0≤B∧B<18446744073709551616:=by omega
   have b3:0≤Hi∧Hi<1000000000:=by omega
   have b4:0≤A∧A<1000000000:=by omega
   have hadd:=fun(W:World)=>add64_run Lo B b1.1 b1.2 b2.1 b2.2 W
   obtain⟨C,hC⟩:∃C,(Lo+B) / 18446744073709551616=C:=⟨_,rfl⟩
   obtain⟨E,hE⟩:∃E,(Lo+B) % 18446744073709551616=E:=⟨_,rfl⟩
   have b5:0≤C∧C≤1:=by omega
   rw [hC,hE] at hadd
   have hadd2:=fun(W:World)=>add64c_run Hi A C b3.1 (by omega) b4.1 (by omega) b5.1 b5.2 W
   rw [show(Hi+A+C) % 18446744073709551616=(N+p) / 18446744073709551616 by omega] at hadd2
   rw [show E=(N+p) % 18446744073709551616 by omega] at hadd
   obtain⟨xb0,xb1⟩:=xb
   obtain⟨yb0,yb1⟩:=yb
   have q1:IntKind.u64.wrap x=x:=by simp [IntKind.wrap,IntKind.signed,IntKind.bits];omega
   have q2:IntKind.u64.wrap y=y:=by simp [IntKind.wrap,IntKind.signed,IntKind.bits];omega
   obtain⟨Hk,HN,Hx,Hy,Hsn,Hmul,Hp,HA,HB⟩:=hid9 hk hN hx hy hsn hmul hp hA hB;clear hB hA hp hmul hsn hy hx hN hk;obtain⟨HHi,HLo,HC,HE,HS⟩:=hid5 hHi hLo hC hE hS;clear hS hE hC hLo hHi
   clear pb
   go_wp2_with fail
   refine Ao (exS g1 (o1+k) g2 (o2+k) x y) (.take 0 (.take 1 (.take 2 (.take 3 (.take 4 (.take 5 (.take 6 (.take 7 (.take 8 (.take 9 (.take 10 (.take 11 (.take 12 (.take 13 (.take 14 (.take 15 .done)))))))))))))))) (by kernel_rfl) (by kernel_rfl) ?_ ?_
   ·exact HS.out
   intro w1 hs1 hk1
   repeat ((first|refine Ai rfl (by rfl) ?_|refine Af rfl (by rfl) ?_|(refine Ah (v:= ?_) rfl (by rfl) ?_ ?_;rotate_left;(· intro w' hSw;unfold exS at hSw;go_simp;(try with_reducible rfl));rotate_right));try simp only [aps])
   refine mix_pure (v:= ?_) rfl (by rfl) ?_ ?_ ?_ ?_ ?_
   rotate_left 3
   ·intro w' hSw;unfold exS at hSw;go_simp;(first|done|(constructor<;>with_reducible rfl)|with_reducible rfl)
   ·intro w' hSw;exact(Hmul.out _)
   rotate_right 3
   try simp only [aps]
   repeat ((first|refine Ai rfl (by rfl) ?_|refine Af rfl (by rfl) ?_|(refine Ah (v:= ?_) rfl (by rfl) ?_ ?_;rotate_left;(· intro w' hSw;unfold exS at hSw;go_simp;(try with_reducible rfl));rotate_right));try simp only [aps])
   refine Aw ?_
   have Hk1:=Lib.hid (Hk.out.nt hk1)
   clear hk1 hs1
   go_wp2_with fail
   go_step3
   go_wp2
   exact Az ⟨exJ.mk (k+1) (N+p) rfl Hk1.out (by omega) Hsn.out,by simp [slotNat'];omega⟩
  ·obtain rfl:k=n:=by omega
   rw [List.take_of_length_le (by rw [HX.out];exact Nat.le_refl _),List.take_of_length_le (by rw [HY.out];exact Nat.le_refl _),HR.out] at hN
   subst hN
   have Hk:=Lib.hid hk;clear hk
   have hkk:((k:Int)==(k:Int))=true:=by simp
   go_wp2
   refine Bl ?_
   exact bodyPost_ret (v:= .tuple #[.int .u64 (R / 18446744073709551616),.int .u64 (R % 18446744073709551616),.int .i64 0]) (by simp [results,Tryz.results150,go_sem]) rfl ⟨rfl,Hk.out⟩
 ·intro hfirst
  have Hfirst:=Lib.hid hfirst;clear hfirst
  go_wp2_with fail
  refine(Hw1.out _ (Keeps.refl _ _)).mono ?_
  rintro e w1 ⟨rfl,hk1⟩
  have Hk1:=Lib.hid hk1;clear hk1
  go_wp2_with fail
  refine(Hw2.out _ Hk1.out).mono ?_
  rintro e w2 ⟨rfl,hk2⟩
  have Hk2:=Lib.hid (Hk1.out.nt hk2);clear hk2
  go_wp2
  go_step3
  rename_i hK
  refine hK _ _ ?_
  refine Hfirst.out _ _ ?_
  exact exJ.mk 0 0 rfl Hk2.out (Nat.zero_le _) rfl
set_option maxHeartbeats 800000
theorem intOf_any(X Y:List Int)(ad1 ad2:Option Addr)(c1 c2 n:Nat)(w:World)(hr1:Reads w 1 (.slice ad1 n c1) n (X.flatMap i64c))(hX:X.length=n)(hr2:Reads w 1 (.slice ad2 n c2) n (Y.flatMap i64c))(hY:Y.length=n)(hn:n≤40000)
  (hXb:∀x∈X,0≤x∧x≤1000000000000000) (hYb:∀y∈Y,0≤y∧y≤10000000):
  Calls Tryz.prog 126 #[.slice ad1 n c1,.slice ad2 n c2] w fun e w'=>e= .returned (.tuple #[.int .i64 (ofR X Y).1,.int .i64 (ofR X Y).2])∧Keeps (fun _=>False) w w':=by
 have hex:=intExact_any X Y ad1 ad2 c1 c2 n w hr1 hX hr2 hY hn hXb hYb
 have hbd:=dotI_bd X Y hXb hYb
 unfold ofR
 obtain⟨N,hN⟩:∃N,dotI X Y=N:=⟨_,rfl⟩
 rw [hN] at hex hbd⊢
 have hev:=even9 N hbd.1 (by omega)
 have hb2:=evenI_bd (N:=N) (D:=1000000000) (M:=1000000000000000000) (by decide) hbd.1 (by omega)
 obtain⟨Z,hZ⟩:∃Z,evenI N 1000000000=Z:=⟨_,rfl⟩
 rw [hZ] at hev hb2⊢
 obtain⟨A,hA⟩:∃A,N / 18446744073709551616=A:=⟨_,rfl⟩
 obtain⟨B,hB⟩:∃B,N % 18446744073709551616=B:=⟨_,rfl⟩
 rw [hA,hB] at hev hex
 obtain⟨z0,z1⟩:=hb2
 by_cases hz:1000000000000000<Z
 ·rw [if_pos hz]
  have hzI:decide (1000000000000000<Z)=true:=by simp [hz]
  clear hz
  obtain⟨Hr1,HX,Hr2,HY,HXb,HYb,Hex,Hbd,HN⟩:=hid9 hr1 hX hr2 hY hXb hYb hex hbd hN;clear hN hbd hex hYb hXb hY hr2 hX hr1;obtain⟨Hev,HZ,HA,HB⟩:=hid4 hev hZ hA hB;clear hB hA hZ hev
  go_enter Tryz.func126,Tryz.ntmps126
  go_wp2_with fail
  refine Hex.out.mono ?_
  rintro e w1 ⟨rfl,hk1⟩
  have Hk1:=Lib.hid hk1;clear hk1
  go_wp2_with fail
  refine(Hev.out _).mono ?_
  rintro e w2 ⟨rfl,hk2⟩
  have Hk2:=Lib.hid (Hk1.out.nt hk2);clear hk2
  go_wp2
  exact bodyPost_ret (v:= .tuple #[.int .i64 0,.int .i64 5]) (by simp [results,Tryz.results126,go_sem]) rfl ⟨rfl,Hk2.out⟩
 ·rw [if_neg hz]
  have hzI:decide (1000000000000000<Z)=false:=by simp [hz]
  have hz2:Z≤1000000000000000:=by omega
  clear hz
  obtain⟨Hr1,HX,Hr2,HY,HXb,HYb,Hex,Hbd,HN⟩:=hid9 hr1 hX hr2 hY hXb hYb hex hbd hN;clear hN hbd hex hYb hXb hY hr2 hX hr1;obtain⟨Hev,HZ,HA,HB⟩:=hid4 hev hZ hA hB;clear hB hA hZ hev
  go_enter Tryz.func126,Tryz.ntmps126
  go_wp2_with fail
  refine Hex.out.mono ?_
  rintro e w1 ⟨rfl,hk1⟩
  have Hk1:=Lib.hid hk1;clear hk1
  go_wp2_with fail
  refine(Hev.out _).mono ?_
  rintro e w2 ⟨rfl,hk2⟩
  have Hk2:=Lib.hid (Hk1.out.nt hk2);clear hk2
  go_wp2
  exact bodyPost_ret (v:= .tuple #[.int .i64 Z,.int .i64 0]) (by simp [results,Tryz.results126,go_sem]) rfl ⟨rfl,Hk2.out⟩
structure Tn where
 rate:Int
 grace:Bool
deriving DecidableEq,Inhabited
def Tn.cells(d:Tn):List Value:= [.int .i64 d.rate,.bool d.grace]
theorem Tn.Am(d:Tn):d.cells.length=2:=rfl
theorem Tn.one(L:List Tn):∀u∈L.flatMap Tn.cells,u.oneCell'=true:=by
 intro u hu
 obtain⟨d,_,hd⟩:=List.mem_flatMap.1 hu
 simp only [Tn.cells,List.mem_cons,List.not_mem_nil,or_false] at hd
 rcases hd with rfl|rfl<;>rfl
structure Ev where
 kind:Int
 day:Int
 tranche:Int
 amount:Int
 ref:Int
deriving DecidableEq,Inhabited
def Ev.cells(d:Ev):List Value:= [.int .i64 d.kind,.int .i64 d.day,.int .i64 d.tranche,.int .i64 d.amount,.int .i64 d.ref]
theorem Ev.Am(d:Ev):d.cells.length=5:=rfl
theorem Ev.one(L:List Ev):∀u∈L.flatMap Ev.cells,u.oneCell'=true:=by
 intro u hu
 obtain⟨d,_,hd⟩:=List.mem_flatMap.1 hu
 simp only [Ev.cells,List.mem_cons,List.not_mem_nil,or_false] at hd
 rcases hd with rfl|rfl|rfl|rfl|rfl<;>rfl
structure Tm where
 limit:Int
 cyc:Int
 due:Int
 minFixed:Int
 minPart:Int
 start:Int
 trs:List Tn
def Tm.val(t:Tm)(v:Value):Value:= .agg #[.int .i64 t.limit,v,.int .i64 t.cyc,.int .i64 t.due,.int .i64 t.minFixed,.int .i64 t.minPart,.int .i64 t.start]
def Ev.agg(e:Ev):Value:= .agg #[.int .i64 e.kind,.int .i64 e.day,.int .i64 e.tranche,.int .i64 e.amount,.int .i64 e.ref]
def inB(v a b:Int):Bool:=decide (a≤v)&&decide (v≤b)
def Tn.okB(x:Tn):Bool:=inB x.rate 0 10000000
def Tm.okB(t:Tm):Bool:=inB t.limit 0 1000000000000000&&inB t.trs.length 1 8&&t.trs.all Tn.okB&&(inB t.cyc 1 28&&inB t.due 1 25&&inB t.minFixed 0 1000000000000000&&inB t.minPart 0 1000&&inB t.start (-135140) 2922896)
def Tm.err(t:Tm):Int:=if t.okB then 0 else 6
set_option maxHeartbeats 400000
theorem tmBetween_any(v a b:Int)(w:World):Calls Tryz.prog 60 #[.int .i64 v,.int .i64 a,.int .i64 b] w fun e w'=>e= .returned (.bool (inB v a b))∧w=w':=by
 by_cases h1:a≤v
 ·by_cases h2:v≤b
  ·have h:inB v a b=true:=by simp [inB,h1,h2]
   exact jZ71
  ·have h:inB v a b=false:=by simp [inB,h2]
   have h2':b<v:=by omega
   exact jZ71
 ·have h:inB v a b=false:=by simp [inB,h1]
  have h1':v<a:=by omega
  exact jZ71
theorem Bw{v a b:Int}{r:Bool}(hr:inB v a b=r)(w:World):Calls Tryz.prog 60 #[.int .i64 v,.int .i64 a,.int .i64 b] w fun e w'=>e= .returned (.bool r)∧w=w':=by
 subst hr;exact tmBetween_any v a b w
set_option maxHeartbeats 3200000
theorem tmRight_any (t : Tm) (ad : Option Addr) (cap : Nat) (w : World) (hr : Reads w 2 (.slice ad t.trs.length cap) t.trs.length (t.trs.flatMap Tn.cells)) (hl : t.trs.length ≤ 1000000) :
    Calls Tryz.prog 33 #[t.val (.slice ad t.trs.length cap)] w fun e w' => e = .returned (.int .i64 t.err) ∧ Keeps (fun _ => False) w w' := by
  obtain ⟨li, cy, du, mf, mp, st, L⟩ := t
  simp only [Tm.val] at hr hl ⊢
  rcases b1 : inB li 0 1000000000000000 with _ | _
  · have hf : Tm.err ⟨li, cy, du, mf, mp, st, L⟩ = 6 := by simp [Tm.err, Tm.okB, b1]
    obtain ⟨Hr, Hf, B1⟩ := hid3 hr hf b1; clear b1 hf hr
    go_enter Tryz.func33, Tryz.ntmps33
    go_wp2
    refine Be 0 rfl ?_
    go_wp2_with (go_at_call 60; ((with_reducible refine (Bw B1.out _).mono ?_); rintro e w1 ⟨rfl, rfl⟩))
    go_step3
    go_wp2
    refine Az ?_
    go_wp2
    rw [Exit.noGoto_ret]
    go_ret
    exact ⟨by rw [Hf.out]; rfl, by (repeat (first | exact Keeps.refl _ _ | exact Keeps.alloc _ _ | exact Keeps.drew _ | exact Keeps.drewN _ _ | refine Keeps.Ap ?_ | refine Keeps.Al ?_ | refine Keeps.Ae ?_))⟩
  obtain ⟨n, hn⟩ : ∃ n, L.length = n := ⟨_, rfl⟩
  have hf0 : Tm.err ⟨li, cy, du, mf, mp, st, L⟩ = if (inB (n : Int) 1 8 && L.all Tn.okB && (inB cy 1 28 && inB du 1 25 && inB mf 0 1000000000000000 && inB mp 0 1000 && inB st (-135140) 2922896)) = true then 0 else 6 := by
    simp only [Tm.err, Tm.okB, b1, hn, Bool.true_and]
  rw [hn] at hr hl ⊢
  by_cases l1 : n < 1
  · have hf : Tm.err ⟨li, cy, du, mf, mp, st, L⟩ = 6 := by rw [hf0]; have : inB (n : Int) 1 8 = false := by simp [inB]; omega
                                                           simp [this]
    obtain rfl : n = 0 := by omega
    obtain ⟨Hr, Hf, B1, Hf0, Hn⟩ := hid5 hr hf b1 hf0 hn; clear hn hf0 b1 hf hr
    go_enter Tryz.func33, Tryz.ntmps33
    go_wp2
    refine Be 0 rfl ?_
    go_wp2_with (go_at_call 60; ((with_reducible refine (Bw B1.out _).mono ?_); rintro e w1 ⟨rfl, rfl⟩))
    go_step3
    go_wp2
    refine Az ?_
    go_wp2
    rw [Exit.noGoto_ret]
    go_ret
    exact ⟨by rw [Hf.out]; rfl, by (repeat (first | exact Keeps.refl _ _ | exact Keeps.alloc _ _ | exact Keeps.drew _ | exact Keeps.drewN _ _ | refine Keeps.Ap ?_ | refine Keeps.Al ?_ | refine Keeps.Ae ?_))⟩
  by_cases l2 : 8 < n
  · have hf : Tm.err ⟨li, cy, du, mf, mp, st, L⟩ = 6 := by rw [hf0]; have : inB (n : Int) 1 8 = false := by simp [inB]; omega
                                                           simp [this]
    have l2' : (8 : Int) < (n : Int) := by omega
    obtain ⟨Hr, Hf, B1, Hf0, Hn⟩ := hid5 hr hf b1 hf0 hn; clear hn hf0 b1 hf hr
    go_enter Tryz.func33, Tryz.ntmps33
    go_wp2
    refine Be 0 rfl ?_
    go_wp2_with (go_at_call 60; ((with_reducible refine (Bw B1.out _).mono ?_); rintro e w1 ⟨rfl, rfl⟩))
    go_step3
    go_wp2
    refine Az ?_
    go_wp2
    rw [Exit.noGoto_ret]
    go_ret
    exact ⟨by rw [Hf.out]; rfl, by (repeat (first | exact Keeps.refl _ _ | exact Keeps.alloc _ _ | exact Keeps.drew _ | exact Keeps.drewN _ _ | refine Keeps.Ap ?_ | refine Keeps.Al ?_ | refine Keeps.Ae ?_))⟩
  have l1' : (1 : Int) ≤ (n : Int) := by omega
  have l2' : (n : Int) ≤ 8 := by omega
  have b2 : inB (n : Int) 1 8 = true := by simp [inB]; omega
  rw [b2, Bool.true_and] at hf0
  have hbox := heap_alloc_new w (.cells #[.int .i64 li, .slice ad n cap, .int .i64 cy, .int .i64 du, .int .i64 mf, .int .i64 mp, .int .i64 st] 29)
  obtain ⟨Hr, B1, B2, Hf0, Hn, Hbox⟩ := hid6 hr b1 b2 hf0 hn hbox; clear hbox hn hf0 b2 b1 hr
  go_enter Tryz.func33, Tryz.ntmps33
  go_wp2
  refine Be 0 rfl ?_
  go_wp2_with (go_at_call 60; ((with_reducible refine (Bw B1.out _).mono ?_); rintro e w1 ⟨rfl, rfl⟩))
  go_loopw [24] (fun c wr => ∃ j : Nat, j ≤ n ∧ c = .int .i64 (j : Nat) ∧ (L.take j).all Tn.okB = true ∧ Keeps (fun _ => False) w wr ∧ wr.heap[w.heap.size]? = some (.cells #[.int .i64 li, .slice ad n cap, .int .i64 cy, .int .i64 du, .int .i64 mf, .int .i64 mp, .int .i64 st] 29 (0, 0))) (fun c _ => n - (intOf c).toNat)
  case atStart => exact ⟨0, Nat.zero_le _, rfl, rfl, Keeps.alloc _ _, Hbox.out⟩
  case round =>
    obtain ⟨j, hj, rfl, hok, hk, hb⟩ := hrel
    have hbl := lt_of_block hb
    by_cases hjl : j < n
    · obtain ⟨⟨xr, xg⟩, hx⟩ := Av (L := L) (k := j) (by rw [Hn.out]; exact hjl)
      obtain ⟨g, o, c, he, hc⟩ := (Hr.out.keeps hk (by simp)).elem Tn.Am hx (by decide)
      simp only [Value.slice.injEq, true_and] at he
      obtain ⟨rfl, rfl⟩ := he
      have x0 : wr.cell? ⟨g, o + j * 2, none⟩ = some (.int .i64 xr) := hc 0 (by decide)
      have x1 : wr.cell? ⟨g, o + j * 2 + 1, none⟩ = some (.bool xg) := hc 1 (by decide)
      have hgl := Ag x0
      clear hc
      rcases b3 : inB xr 0 10000000 with _ | _
      · have hall : L.all Tn.okB = false := by
          rw [Bool.eq_false_iff]; intro hm
          have := List.all_eq_true.1 hm _ (List.mem_of_getElem? hx)
          simp only [Tn.okB, b3] at this; simp at this
        have hf : Tm.err ⟨li, cy, du, mf, mp, st, L⟩ = 6 := by rw [Hf0.out, hall]; simp
        obtain ⟨Hx, Hok, Hk, Hb, B3, Hall, Hf⟩ := hid7 hx hok hk hb b3 hall hf; clear hf hall b3 hb hk hok hx
        go_wp2_with (go_at_call 60; ((with_reducible refine (Bw B3.out _).mono ?_); rintro e w1 ⟨rfl, rfl⟩))
        go_step3
        go_wp2
        refine Az ?_
        go_wp2
        rw [Exit.noGoto_ret]
        go_ret
        exact ⟨by rw [Hf.out]; rfl, Hk.out.nt (by (repeat (first | exact Keeps.refl _ _ | exact Keeps.alloc _ _ | exact Keeps.drew _ | exact Keeps.drewN _ _ | refine Keeps.Ap ?_ | refine Keeps.Al ?_ | refine Keeps.Ae ?_)))⟩
      · have hok' : (L.take (j + 1)).all Tn.okB = true := by rw [take_snoc' hx, List.all_append, hok]; simp [Tn.okB, b3]
        obtain ⟨Hx, Hok, Hk, Hb, B3, Hok'⟩ := hid6 hx hok hk hb b3 hok'; clear hok' b3 hb hk hok hx
        go_wp2_with (go_at_call 60; ((with_reducible refine (Bw B3.out _).mono ?_); rintro e w1 ⟨rfl, rfl⟩))
        go_roundw
        case rel => exact ⟨j + 1, by omega, by go_num, Hok'.out, Hk.out.nt (by (repeat (first | exact Keeps.refl _ _ | exact Keeps.alloc _ _ | exact Keeps.drew _ | exact Keeps.drewN _ _ | refine Keeps.Ap ?_ | refine Keeps.Al ?_ | refine Keeps.Ae ?_))), Au Hb.out _⟩
        case measure => simp [intOf]; omega
    · obtain rfl : j = n := by omega
      have hall : L.all Tn.okB = true := by rw [List.take_of_length_le (by rw [Hn.out]; exact Nat.le_refl _)] at hok; exact hok
      have hf1 := Hf0.out
      rw [hall, Bool.true_and] at hf1
      have c2 : wr.cell? ⟨w.heap.size, 2, none⟩ = some (.int .i64 cy) := Aa hb 2
      have c3 : wr.cell? ⟨w.heap.size, 3, none⟩ = some (.int .i64 du) := Aa hb 3
      have c4 : wr.cell? ⟨w.heap.size, 4, none⟩ = some (.int .i64 mf) := Aa hb 4
      have c5 : wr.cell? ⟨w.heap.size, 5, none⟩ = some (.int .i64 mp) := Aa hb 5
      have c6 : wr.cell? ⟨w.heap.size, 6, none⟩ = some (.int .i64 st) := Aa hb 6
      have f1 : inB cy 1 28 = (decide (1 ≤ cy) && decide (cy ≤ 28)) := rfl
      have f2 : inB du 1 25 = (decide (1 ≤ du) && decide (du ≤ 25)) := rfl
      have f3 : inB st (-135140) 2922896 = (decide (-135140 ≤ st) && decide (st ≤ 2922896)) := rfl
      have F1 := Lib.hid f1; clear f1
      have F2 := Lib.hid f2; clear f2
      have F3 := Lib.hid f3; clear f3
      by_cases q : cy < 1
      · have hz : inB cy 1 28 = false := by rw [F1.out]; simp; omega
        have hf : Tm.err ⟨li, cy, du, mf, mp, st, L⟩ = 6 := by rw [hf1, hz]; simp
        obtain ⟨Hok, Hk, Hb, Hall, Hf, Hf1, Hz⟩ := hid7 hok hk hb hall hf hf1 hz; clear hz hf1 hf hall hb hk hok
        go_wp2_with fail
        go_step3
        go_wp2
        refine Az ?_
        go_wp2
        rw [Exit.noGoto_ret]
        go_ret
        exact ⟨by rw [Hf.out]; rfl, Hk.out⟩
      have p1 : 1 ≤ cy := by omega
      clear q
      by_cases q : 28 < cy
      · have hz : inB cy 1 28 = false := by rw [F1.out]; simp; omega
        have hf : Tm.err ⟨li, cy, du, mf, mp, st, L⟩ = 6 := by rw [hf1, hz]; simp
        obtain ⟨Hok, Hk, Hb, Hall, Hf, Hf1, Hz⟩ := hid7 hok hk hb hall hf hf1 hz; clear hz hf1 hf hall hb hk hok
        go_wp2_with fail
        go_step3
        go_wp2
        refine Az ?_
        go_wp2
        rw [Exit.noGoto_ret]
        go_ret
        exact ⟨by rw [Hf.out]; rfl, Hk.out⟩
      have p2 : cy ≤ 28 := by omega
      clear q
      by_cases q : du < 1
      · have hz : inB du 1 25 = false := by rw [F2.out]; simp; omega
        have hf : Tm.err ⟨li, cy, du, mf, mp, st, L⟩ = 6 := by rw [hf1, hz]; simp
        obtain ⟨Hok, Hk, Hb, Hall, Hf, Hf1, Hz⟩ := hid7 hok hk hb hall hf hf1 hz; clear hz hf1 hf hall hb hk hok
        go_wp2_with fail
        go_step3
        go_wp2
        refine Az ?_
        go_wp2
        rw [Exit.noGoto_ret]
        go_ret
        exact ⟨by rw [Hf.out]; rfl, Hk.out⟩
      have p3 : 1 ≤ du := by omega
      clear q
      by_cases q : 25 < du
      · have hz : inB du 1 25 = false := by rw [F2.out]; simp; omega
        have hf : Tm.err ⟨li, cy, du, mf, mp, st, L⟩ = 6 := by rw [hf1, hz]; simp
        obtain ⟨Hok, Hk, Hb, Hall, Hf, Hf1, Hz⟩ := hid7 hok hk hb hall hf hf1 hz; clear hz hf1 hf hall hb hk hok
        go_wp2_with fail
        go_step3
        go_wp2
        refine Az ?_
        go_wp2
        rw [Exit.noGoto_ret]
        go_ret
        exact ⟨by rw [Hf.out]; rfl, Hk.out⟩
      have p4 : du ≤ 25 := by omega
      clear q
      rcases bf : inB mf 0 1000000000000000 with _ | _
      · have hf : Tm.err ⟨li, cy, du, mf, mp, st, L⟩ = 6 := by rw [hf1, bf]; simp
        obtain ⟨Hok, Hk, Hb, Hall, Hf, Hf1, Bf⟩ := hid7 hok hk hb hall hf hf1 bf; clear bf hf1 hf hall hb hk hok
        go_wp2_with (go_at_call 60; ((with_reducible refine (Bw Bf.out _).mono ?_); rintro e w1 ⟨rfl, rfl⟩))
        go_step3
        go_wp2
        refine Bl ?_
        go_ret
        exact ⟨by rw [Hf.out]; rfl, Hk.out⟩
      rcases bp : inB mp 0 1000 with _ | _
      · have hf : Tm.err ⟨li, cy, du, mf, mp, st, L⟩ = 6 := by rw [hf1, bp]; simp
        obtain ⟨Hok, Hk, Hb, Hall, Hf, Hf1, Bf, Bp⟩ := hid8 hok hk hb hall hf hf1 bf bp; clear bp bf hf1 hf hall hb hk hok
        go_wp2_with (first | (go_at_call 60; ((with_reducible refine (Bw Bf.out _).mono ?_); rintro e w1 ⟨rfl, rfl⟩)) | (go_at_call 60; ((with_reducible refine (Bw Bp.out _).mono ?_); rintro e w1 ⟨rfl, rfl⟩)))
        go_step3
        go_wp2
        refine Bl ?_
        go_ret
        exact ⟨by rw [Hf.out]; rfl, Hk.out⟩
      by_cases q : st < -135140
      · have hz : inB st (-135140) 2922896 = false := by rw [F3.out]; simp; omega
        have hf : Tm.err ⟨li, cy, du, mf, mp, st, L⟩ = 6 := by rw [hf1, hz]; simp
        obtain ⟨Hok, Hk, Hb, Hall, Hf, Hf1, Hz, Bf, Bp⟩ := hid9 hok hk hb hall hf hf1 hz bf bp; clear bp bf hz hf1 hf hall hb hk hok
        go_wp2_with (first | (go_at_call 60; ((with_reducible refine (Bw Bf.out _).mono ?_); rintro e w1 ⟨rfl, rfl⟩)) | (go_at_call 60; ((with_reducible refine (Bw Bp.out _).mono ?_); rintro e w1 ⟨rfl, rfl⟩)))
        go_step3
        go_wp2
        refine Bl ?_
        go_ret
        exact ⟨by rw [Hf.out]; rfl, Hk.out⟩
      have p5 : -135140 ≤ st := by omega
      clear q
      by_cases q : 2922896 < st
      · have hz : inB st (-135140) 2922896 = false := by rw [F3.out]; simp; omega
        have hf : Tm.err ⟨li, cy, du, mf, mp, st, L⟩ = 6 := by rw [hf1, hz]; simp
        obtain ⟨Hok, Hk, Hb, Hall, Hf, Hf1, Hz, Bf, Bp⟩ := hid9 hok hk hb hall hf hf1 hz bf bp; clear bp bf hz hf1 hf hall hb hk hok
        go_wp2_with (first | (go_at_call 60; ((with_reducible refine (Bw Bf.out _).mono ?_); rintro e w1 ⟨rfl, rfl⟩)) | (go_at_call 60; ((with_reducible refine (Bw Bp.out _).mono ?_); rintro e w1 ⟨rfl, rfl⟩)))
        go_step3
        go_wp2
        refine Bl ?_
        go_ret
        exact ⟨by rw [Hf.out]; rfl, Hk.out⟩
      have p6 : st ≤ 2922896 := by omega
      clear q
      have hf : Tm.err ⟨li, cy, du, mf, mp, st, L⟩ = 0 := by rw [hf1, bf, bp, F1.out, F2.out, F3.out]; simp; omega
      obtain ⟨Hok, Hk, Hb, Hall, Hf, Hf1, Bf, Bp⟩ := hid8 hok hk hb hall hf hf1 bf bp; clear bp bf hf1 hf hall hb hk hok
      go_wp2_with (first | (go_at_call 60; ((with_reducible refine (Bw Bf.out _).mono ?_); rintro e w1 ⟨rfl, rfl⟩)) | (go_at_call 60; ((with_reducible refine (Bw Bp.out _).mono ?_); rintro e w1 ⟨rfl, rfl⟩)))
      refine Bl ?_
      go_ret
      exact ⟨by rw [Hf.out]; rfl, Hk.out⟩
def evErr(t:Tm)(e:Ev):Int:=
 if¬t.err=0 then 6
 else if e.kind<1∨6<e.kind then 1
 else if(e.kind=2∧¬e.tranche=0)∨(¬e.kind=2∧(e.tranche<1∨(t.trs.length:Int)<e.tranche)) then 7
 else if(e.kind=6∧(e.amount<0∨10000000<e.amount))∨(¬e.kind=6∧(e.amount<1∨1000000000000000<e.amount)) then 8
 else if e.day<t.start∨2932896<e.day then 10
 else if((e.kind=4∨e.kind=5)∧(e.ref<1∨2000<e.ref))∨(¬(e.kind=4∨e.kind=5)∧¬e.ref=0) then 1
 else 0
theorem Tm.err_or(t:Tm):t.err=0∨t.err=6:=by unfold Tm.err;split<;>simp
set_option maxHeartbeats 400000
theorem Dm(k:Int)(w:World)(r:Bool)(hr:r=(decide (k=4)||decide (k=5))):Calls Tryz.prog 120 #[.int .i64 k] w fun e w'=>e= .returned (.bool r)∧w=w':=by
 by_cases h1:k=4
 ·subst h1
  have h:r=true:=by rw [hr];rfl
  subst h
  clear hr
  exact jZ96
 ·by_cases h2:k=5
  ·subst h2
   have h:r=true:=by rw [hr];rfl
   subst h
   clear hr
   exact jZ96
  ·have h:r=false:=by rw [hr];simp [h1,h2]
   subst h
   clear hr
   have h1':(k==4)=false:=beq_eq_false_iff_ne.2 h1
   have h2':(k==5)=false:=beq_eq_false_iff_ne.2 h2
   exact jZ96
theorem tmRight_at(t:Tm)(v:Value)(w:World){z:Int}(hz:t.err=z)(hr:Reads w 2 v t.trs.length (t.trs.flatMap Tn.cells))(hl:t.trs.length≤1000000):
  Calls Tryz.prog 33 #[.agg #[.int .i64 t.limit,v,.int .i64 t.cyc,.int .i64 t.due,.int .i64 t.minFixed,.int .i64 t.minPart,.int .i64 t.start]] w fun e w'=>e= .returned (.int .i64 z)∧Keeps (fun _=>False) w w':=by
 have hr':=hr
 obtain⟨ad,c,rfl,_⟩:=hr'
 subst hz
 exact tmRight_any t ad c w hr hl
theorem haltE{p:Prop}(h:Hid p):p:=h.out
def evCells(B n:Nat)(ad:Option Addr)(cap:Nat)(st ki da tr am re:Int)(W:World):Prop:=
 W.cell? ⟨B,1,none⟩=some (.slice ad n cap)∧W.cell? ⟨B,6,none⟩=some (.int .i64 st)∧W.cell? ⟨B+1,0,none⟩=some (.int .i64 ki)∧W.cell? ⟨B+1,1,none⟩=some (.int .i64 da)∧W.cell? ⟨B+1,2,none⟩=some (.int .i64 tr)∧W.cell? ⟨B+1,3,none⟩=some (.int .i64 am)∧W.cell? ⟨B+1,4,none⟩=some (.int .i64 re)
theorem evCells_of(w:World)(n:Nat)(ad:Option Addr)(cap:Nat)(li cy du mf mp st ki da tr am re:Int):∀W,Keeps (fun _=>False) ((w.alloc (.cells #[.int .i64 li,.slice ad n cap,.int .i64 cy,.int .i64 du,.int .i64 mf,.int .i64 mp,.int .i64 st] 29)).alloc (.cells #[.int .i64 ki,.int .i64 da,.int .i64 tr,.int .i64 am,.int .i64 re] 77)) W→evCells w.heap.size n ad cap st ki da tr am re W:=by
 intro W hk
 have h1:=Ad (Au (heap_alloc_new w (.cells #[.int .i64 li,.slice ad n cap,.int .i64 cy,.int .i64 du,.int .i64 mf,.int .i64 mp,.int .i64 st] 29)) (.cells #[.int .i64 ki,.int .i64 da,.int .i64 tr,.int .i64 am,.int .i64 re] 77)) hk (by simp)
 have h2:=box_new hk (by simp)
 rw [show(w.alloc (.cells #[.int .i64 li,.slice ad n cap,.int .i64 cy,.int .i64 du,.int .i64 mf,.int .i64 mp,.int .i64 st] 29)).heap.size=w.heap.size+1 by simp] at h2
 exact⟨Aa h1 1,Aa h1 6,Aa h2 0,Aa h2 1,Aa h2 2,Aa h2 3,Aa h2 4⟩
set_option maxHeartbeats 3200000
theorem evRight_go(li cy du mf mp st ki da tr am re:Int)(L:List Tn)(n:Nat)(ad:Option Addr)(cap:Nat)(w:World)(hr:Reads w 2 (.slice ad n cap) n (L.flatMap Tn.cells))(hl:n≤1000000)(hn:L.length=n):
  Calls Tryz.prog 99 #[.agg #[.int .i64 li,.slice ad n cap,.int .i64 cy,.int .i64 du,.int .i64 mf,.int .i64 mp,.int .i64 st],.agg #[.int .i64 ki,.int .i64 da,.int .i64 tr,.int .i64 am,.int .i64 re]] w fun e w'=>e= .returned (.int .i64 (evErr ⟨li,cy,du,mf,mp,st,L⟩ ⟨ki,da,tr,am,re⟩))∧Keeps (fun _=>False) w w':=by
 have hc:=evCells_of w n ad cap li cy du mf mp st ki da tr am re
 obtain⟨z,hz⟩:∃z,evErr ⟨li,cy,du,mf,mp,st,L⟩ ⟨ki,da,tr,am,re⟩=z:=⟨_,rfl⟩
 rw [hz]
 obtain⟨y,hy⟩:∃y,Tm.err ⟨li,cy,du,mf,mp,st,L⟩=y:=⟨_,rfl⟩
 have hy2:=Tm.err_or ⟨li,cy,du,mf,mp,st,L⟩
 rw [hy] at hy2
 unfold evErr at hz
 rw [hy,hn] at hz
 dsimp only at hz
 obtain⟨Hr,Hn,Hc,Hz,Hy⟩:=hid5 hr hn hc hz hy;clear hy hz hc hn hr
 go_enter Tryz.func99,Tryz.ntmps99
 go_wp2
 refine Be 0 rfl ?_
 go_wp2_with (go_at_call 33;((with_reducible refine(tmRight_at ⟨li,cy,du,mf,mp,st,L⟩ (.slice ad n cap) _ Hy.out (by rw [Hn.out];exact(Hr.out.keeps (S:=fun _=>False) (by(repeat (first|exact Keeps.refl _ _|exact Keeps.alloc _ _|exact Keeps.drew _|exact Keeps.drewN _ _|refine Keeps.Ap ?_|refine Keeps.Al ?_|refine Keeps.Ae ?_))) (by simp))) (by rw [Hn.out];omega)).mono ?_);rintro e w1 ⟨rfl,hk1⟩;obtain⟨c1,c6,d0,d1,d2,d3,d4⟩:=Hc.out _ hk1;have Hk1:=Lib.hid hk1;clear hk1;refine haltE ?_))
 refine Lib.hid ?_
 rcases hy2 with rfl|rfl
 ·have hz:=Hz.out
  clear Hz
  rw [if_neg (by decide)] at hz
  go_upto_region 4 with fail
  go_cut [17] from 10 to 17 (fun c wx=>c= .bool (decide (ki<1∨6<ki))∧w1=wx)
  case first=>
   have Hz:=Lib.hid hz;clear hz
   by_cases q6:ki<1
   ·exact jZ115
   ·skip
    by_cases q8:6<ki
    ·exact jZ115
    ·skip
     go_wp2_with fail
     go_meet
     exact jZ15
  case rest=>
   obtain⟨rfl,rfl⟩:=hcut
   by_cases c4:ki<1∨6<ki
   ·rw [if_pos c4] at hz
    rw [decide_eq_true c4]
    subst hz
    clear c4
    exact jZ19
   rw [if_neg c4] at hz
   rw [decide_eq_false c4]
   clear c4
   go_upto_region 6 with fail
   go_cut [43] from 18 to 43 (fun c wx=>c= .bool (decide ((ki=2∧¬tr=0)∨(¬ki=2∧(tr<1∨(n:Int)<tr))))∧w1=wx)
   case first=>
    have Hz:=Lib.hid hz;clear hz
    by_cases q8:ki=2
    ·skip
     have p8:(ki==2)=true:=by simp [q8]
     have p8':(ki !=2)=false:=by simp [q8]
     have Q8:=Lib.hid q8;clear q8
     by_cases q10:tr=0
     ·skip
      have p10:(tr==0)=true:=by simp [q10]
      have p10':(tr !=0)=false:=by simp [q10]
      have Q10:=Lib.hid q10;clear q10
      go_wp2_with fail
      go_meet
      have q8:=Q8.out
      have q10:=Q10.out
      exact jZ15
     ·skip
      have p10:(tr==0)=false:=by simp [q10]
      have p10':(tr !=0)=true:=by simp [q10]
      have Q10:=Lib.hid q10;clear q10
      go_wp2_with fail
      go_meet
      have q8:=Q8.out
      have q10:=Q10.out
      exact jZ24
    ·skip
     have p8:(ki==2)=false:=by simp [q8]
     have p8':(ki !=2)=true:=by simp [q8]
     have Q8:=Lib.hid q8;clear q8
     by_cases q10:tr<1
     ·skip
      go_wp2_with fail
      go_meet
      have q8:=Q8.out
      exact jZ24
     ·skip
      by_cases q12:(n:Int)<tr
      ·skip
       go_wp2_with fail
       go_meet
       have q8:=Q8.out
       exact jZ24
      ·skip
       go_wp2_with fail
       go_meet
       have q8:=Q8.out
       exact jZ15
   case rest=>
    obtain⟨rfl,rfl⟩:=hcut
    by_cases c6:(ki=2∧¬tr=0)∨(¬ki=2∧(tr<1∨(n:Int)<tr))
    ·rw [if_pos c6] at hz
     rw [decide_eq_true c6]
     subst hz
     clear c6
     exact jZ19
    rw [if_neg c6] at hz
    rw [decide_eq_false c6]
    clear c6
    go_upto_region 8 with fail
    go_cut [71] from 44 to 71 (fun c wx=>c= .bool (decide ((ki=6∧(am<0∨10000000<am))∨(¬ki=6∧(am<1∨1000000000000000<am))))∧w1=wx)
    case first=>
     have Hz:=Lib.hid hz;clear hz
     by_cases q10:ki=6
     ·skip
      have p10:(ki==6)=true:=by simp [q10]
      have p10':(ki !=6)=false:=by simp [q10]
      have Q10:=Lib.hid q10;clear q10
      by_cases q12:am<0
      ·exact jZ103
      ·skip
       by_cases q14:10000000<am
       ·exact jZ103
       ·skip
        go_wp2_with fail
        go_meet
        have q10:=Q10.out
        exact jZ15
     ·skip
      have p10:(ki==6)=false:=by simp [q10]
      have p10':(ki !=6)=true:=by simp [q10]
      have Q10:=Lib.hid q10;clear q10
      by_cases q12:am<1
      ·exact jZ103
      ·skip
       by_cases q14:1000000000000000<am
       ·exact jZ103
       ·skip
        go_wp2_with fail
        go_meet
        have q10:=Q10.out
        exact jZ15
    case rest=>
     obtain⟨rfl,rfl⟩:=hcut
     by_cases c8:(ki=6∧(am<0∨10000000<am))∨(¬ki=6∧(am<1∨1000000000000000<am))
     ·rw [if_pos c8] at hz
      rw [decide_eq_true c8]
      subst hz
      clear c8
      exact jZ19
     rw [if_neg c8] at hz
     rw [decide_eq_false c8]
     clear c8
     go_upto_region 10 with fail
     go_cut [81] from 72 to 81 (fun c wx=>c= .bool (decide (da<st∨2932896<da))∧w1=wx)
     case first=>
      have Hz:=Lib.hid hz;clear hz
      by_cases q12:da<st
      ·exact jZ115
      ·skip
       by_cases q14:2932896<da
       ·exact jZ115
       ·skip
        go_wp2_with fail
        go_meet
        exact jZ15
     case rest=>
      obtain⟨rfl,rfl⟩:=hcut
      by_cases c10:da<st∨2932896<da
      ·rw [if_pos c10] at hz
       rw [decide_eq_true c10]
       subst hz
       clear c10
       exact jZ19
      rw [if_neg c10] at hz
      rw [decide_eq_false c10]
      clear c10
      go_upto_region 12 with fail
      go_cut [105] from 82 to 105 (fun c wx=>c= .bool (decide (((ki=4∨ki=5)∧(re<1∨2000<re))∨(¬(ki=4∨ki=5)∧¬re=0)))∧w1=wx)
      case first=>
       have Hz:=Lib.hid hz;clear hz
       by_cases q14:ki=4
       ·skip
        have p14:(ki==4)=true:=by simp [q14]
        have p14':(ki !=4)=false:=by simp [q14]
        have Q14:=Lib.hid q14;clear q14
        by_cases q16:re<1
        ·exact jZ58
        ·skip
         by_cases q18:2000<re
         ·exact jZ58
         ·skip
          have hr:true=(decide (ki=4)||decide (ki=5)):=by simp [Q14.out]
          have HR:=Lib.hid hr;clear hr
          go_wp2_with (go_at_call 120;((with_reducible refine(Dm ki _ true HR.out).mono ?_);rintro e w2 ⟨rfl,rfl⟩))
          go_meet
          have q14:=Q14.out
          exact jZ15
       ·skip
        have p14:(ki==4)=false:=by simp [q14]
        have p14':(ki !=4)=true:=by simp [q14]
        have Q14:=Lib.hid q14;clear q14
        by_cases q16:ki=5
        ·skip
         have p16:(ki==5)=true:=by simp [q16]
         have p16':(ki !=5)=false:=by simp [q16]
         have Q16:=Lib.hid q16;clear q16
         by_cases q18:re<1
         ·exact jZ53
         ·skip
          by_cases q20:2000<re
          ·exact jZ53
          ·skip
           have hr:true=(decide (ki=4)||decide (ki=5)):=by simp [Q16.out]
           have HR:=Lib.hid hr;clear hr
           go_wp2_with (go_at_call 120;((with_reducible refine(Dm ki _ true HR.out).mono ?_);rintro e w2 ⟨rfl,rfl⟩))
           go_meet
           have q14:=Q14.out
           have q16:=Q16.out
           exact jZ15
        ·skip
         have p16:(ki==5)=false:=by simp [q16]
         have p16':(ki !=5)=true:=by simp [q16]
         have Q16:=Lib.hid q16;clear q16
         by_cases q18:re=0
         ·skip
          have p18:(re==0)=true:=by simp [q18]
          have p18':(re !=0)=false:=by simp [q18]
          have Q18:=Lib.hid q18;clear q18
          have hr:false=(decide (ki=4)||decide (ki=5)):=by simp [Q14.out,Q16.out]
          have HR:=Lib.hid hr;clear hr
          go_wp2_with (go_at_call 120;((with_reducible refine(Dm ki _ false HR.out).mono ?_);rintro e w2 ⟨rfl,rfl⟩))
          go_meet
          have q14:=Q14.out
          have q16:=Q16.out
          have q18:=Q18.out
          exact jZ15
         ·skip
          have p18:(re==0)=false:=by simp [q18]
          have p18':(re !=0)=true:=by simp [q18]
          have Q18:=Lib.hid q18;clear q18
          have hr:false=(decide (ki=4)||decide (ki=5)):=by simp [Q14.out,Q16.out]
          have HR:=Lib.hid hr;clear hr
          go_wp2_with (go_at_call 120;((with_reducible refine(Dm ki _ false HR.out).mono ?_);rintro e w2 ⟨rfl,rfl⟩))
          go_meet
          have q14:=Q14.out
          have q16:=Q16.out
          have q18:=Q18.out
          exact jZ24
      case rest=>
       obtain⟨rfl,rfl⟩:=hcut
       by_cases c12:((ki=4∨ki=5)∧(re<1∨2000<re))∨(¬(ki=4∨ki=5)∧¬re=0)
       ·rw [if_pos c12] at hz
        rw [decide_eq_true c12]
        subst hz
        clear c12
        exact jZ19
       rw [if_neg c12] at hz
       rw [decide_eq_false c12]
       clear c12
       subst hz
       go_wp2_with fail
       go_step3
       go_wp2
       refine Bl ?_
       exact jZ79
 ·go_wp2_with fail
  go_step3
  go_wp2
  refine Az ?_
  go_wp2
  rw [Exit.noGoto_ret]
  go_ret
  exact⟨by rw [←Hz.out];rfl,Keeps.nt (by(repeat (first|exact Keeps.refl _ _|exact Keeps.alloc _ _|exact Keeps.drew _|exact Keeps.drewN _ _|refine Keeps.Ap ?_|refine Keeps.Al ?_|refine Keeps.Ae ?_))) Hk1.out⟩
theorem evRight_any(t:Tm)(ev:Ev)(ad:Option Addr)(cap:Nat)(w:World)(hr:Reads w 2 (.slice ad t.trs.length cap) t.trs.length (t.trs.flatMap Tn.cells))(hl:t.trs.length≤1000000):
  Calls Tryz.prog 99 #[t.val (.slice ad t.trs.length cap),ev.agg] w fun e w'=>e= .returned (.int .i64 (evErr t ev))∧Keeps (fun _=>False) w w':=evRight_go _ _ _ _ _ _ _ _ _ _ _ _ _ ad cap w hr hl rfl
def maxI(a b:Int):Int:=if a≤b then b else a
def leastI(mf mp total:Int):Int:=minI total (maxI mf (evenI (total*mp) 1000))
theorem tm_okB{t:Tm}(h:t.err=0):t.okB=true:=by
 unfold Tm.err at h
 split at h
 ·assumption
 ·cases h
theorem tm_nums{t:Tm}(h:t.err=0):(1≤t.trs.length∧t.trs.length≤8)∧(∀x∈t.trs,0≤x.rate∧x.rate≤10000000)∧(1≤t.cyc∧t.cyc≤28)∧(1≤t.due∧t.due≤25)∧(0≤t.minFixed∧t.minFixed≤1000000000000000)∧(0≤t.minPart∧t.minPart≤1000)∧(-135140≤t.start∧t.start≤2922896):=by
 have h1:=tm_okB h
 simp only [Tm.okB,inB,Bool.and_eq_true,decide_eq_true_eq] at h1
 refine⟨⟨by omega,by omega⟩,fun x hx=> ?_,by omega,by omega,by omega,by omega,by omega⟩
 have:=List.all_eq_true.1 h1.1.2 x hx
 simpa [Tn.okB,inB] using this
set_option maxHeartbeats 1600000
theorem leastOf_any(t:Tm)(v:Value)(total:Int)(w:World)(hz:t.err=0)(hr:Reads w 2 v t.trs.length (t.trs.flatMap Tn.cells))(h0:0≤total)(h1:total≤1000000000000000):
  Calls Tryz.prog 129 #[.agg #[.int .i64 t.limit,v,.int .i64 t.cyc,.int .i64 t.due,.int .i64 t.minFixed,.int .i64 t.minPart,.int .i64 t.start],.int .i64 total] w fun e w'=>e= .returned (.tuple #[.int .i64 (leastI t.minFixed t.minPart total),.int .i64 0])∧Keeps (fun _=>False) w w':=by
 obtain⟨⟨l0,l1⟩,_,_,_,⟨f0,f1⟩,⟨p0,p1⟩,_⟩:=tm_nums hz
 have htm:=fun W (hW:Keeps (fun _=>False) w W)=>tmRight_at t v W hz (hr.keeps hW (by simp)) (by omega)
 have hsh:=fun W=>cashShare_go total t.minPart h0 h1 p0 p1 W
 have hbd:=evenI_bd (N:=total*t.minPart) (D:=1000) (M:=1000000000000000) (by decide) (Int.mul_nonneg h0 p0) (Int.mul_le_mul h1 p1 p0 (by decide))
 obtain⟨li,cy,du,mf,mp,st,L⟩:=t
 simp only at *
 unfold leastI
 obtain⟨q,hq⟩:∃q,evenI (total*mp) 1000=q:=⟨_,rfl⟩
 rw [hq] at hsh hbd⊢
 obtain⟨ad,c,rfl,_⟩:=id hr
 obtain⟨q0,q1⟩:=hbd
 have b0:∀W,Keeps (fun _=>False) (w.alloc (.cells #[.int .i64 li,.slice ad L.length c,.int .i64 cy,.int .i64 du,.int .i64 mf,.int .i64 mp,.int .i64 st] 29)) W→W.heap[w.heap.size]?=some (.cells #[.int .i64 li,.slice ad L.length c,.int .i64 cy,.int .i64 du,.int .i64 mf,.int .i64 mp,.int .i64 st] 29 (0,0)):=fun W hW=>Ad (heap_alloc_new w _) hW (by simp)
 have tn:decide (total<0)=false:=by rw [decide_eq_false_iff_not];omega
 have tn2:decide (1000000000000000<total)=false:=by rw [decide_eq_false_iff_not];omega
 obtain⟨n,hn⟩:∃n,L.length=n:=⟨_,rfl⟩
 rw [hn] at hr htm b0⊢
 have key:∀z:Int,minI total (maxI mf q)=z→Calls Tryz.prog 129 #[.agg #[.int .i64 li,.slice ad n c,.int .i64 cy,.int .i64 du,.int .i64 mf,.int .i64 mp,.int .i64 st],.int .i64 total] w fun e w'=>e= .returned (.tuple #[.int .i64 z,.int .i64 0])∧Keeps (fun _=>False) w w':=by
  intro z hzz
  rcases Int.lt_trichotomy mf q with m1|m1|m1
  ·rw [show maxI mf q=q by unfold maxI;rw [if_pos (by omega)]] at hzz
   rcases Int.lt_trichotomy total q with m2|m2|m2
   ·rw [show minI total q=total by unfold minI;rw [if_pos (by omega)]] at hzz
    exact jZ9
   ·exact jZ111
   ·rw [show minI total q=q by unfold minI;rw [if_neg (by omega)]] at hzz
    subst hzz
    obtain⟨Hr,Hz,Htm,Hsh,Hq,B0,Hn⟩:=hid7 hr hz htm hsh hq b0 hn;clear hn b0 hq hsh htm hz hr
    go_enter Tryz.func129,Tryz.ntmps129
    go_wp2_with fail
    refine Be 0 rfl ?_
    go_wp2_with fail
    refine(Htm.out _ (Keeps.alloc _ _)).mono ?_
    rintro e w1 ⟨rfl,hk1⟩
    have hb:=B0.out _ hk1
    have c5:=Aa hb 5
    have cl:=lt_of_block hb
    have Hk1:=Lib.hid ((Keeps.alloc w _).nt hk1)
    clear hk1 hb
    go_wp2_with fail
    refine(Hsh.out _).mono ?_
    rintro e w2 ⟨rfl,hk2⟩
    have Hk2:=Lib.hid (Hk1.out.nt hk2)
    clear hk2
    go_wp2
    refine Bl ?_
    exact bodyPost_ret (v:= .tuple #[.int .i64 q,.int .i64 0]) (by simp [results,Tryz.results129,go_sem]) rfl ⟨rfl,Hk2.out⟩
  ·subst m1
   rw [show maxI mf mf=mf by unfold maxI;rw [if_pos (by omega)]] at hzz
   exact jZ20
  ·rw [show maxI mf q=mf by unfold maxI;rw [if_neg (by omega)]] at hzz
   exact jZ20
 exact key _ rfl
def payQ(f d:Int)(x:Ev):Bool:=decide (x.kind=2)&&(decide (f≤x.day)&&decide (x.day≤d))
def paidS(f d:Int):List Ev→Int→Int
 | [],s=>s
 |x::L,s=>paidS f d L (if payQ f d x=true then minI (s+x.amount) 1000000000000000 else s)
def gpFr(f d:Int)(v:Value)(s:Int)(k:Nat)(u:Nat→Value):Act:={ tmps:= #[.int .i64 f,.int .i64 d,v,u 3,u 4,u 5,u 6,u 7,.int .i64 s,.int .i64 k,u 10,u 11,u 12,u 13,u 14,u 15,u 16,u 17,u 18,u 19,u 20,u 21,u 22,u 23,u 24,u 25,u 26,u 27,u 28,u 29,u 30,u 31,u 32,u 33,u 34,u 35,u 36,u 37,u 38,u 39,u 40,u 41,u 42,u 43,u 44,u 45,u 46,u 47,u 48,u 49],defers:= [] }
def gpJ(w:World)(f d:Int)(v:Value)(L:List Ev)(n:Nat)(R:Int)(a':Act)(W:World):Prop:=∃(k:Nat) (s:Int) (u:Nat→Value),a'=gpFr f d v s k u∧Keeps (fun _=>False) w W∧k≤n∧0≤s∧s≤1000000000000000∧paidS f d (L.drop k) s=R
theorem gpJ.mk{w W:World}{f d:Int}{v:Value}{L:List Ev}{n:Nat}{R:Int}{a':Act}(k:Nat)(s:Int)(h:a'=gpFr f d v s k (fun i=>a'.tmps.getD i undef))(hw:Keeps (fun _=>False) w W)(hn:k≤n)(h0:0≤s)(h1:s≤1000000000000000)(hp:paidS f d (L.drop k) s=R):gpJ w f d v L n R a' W:=⟨k,s,_,h,hw,hn,h0,h1,hp⟩
def slotNat9(i:Nat)(a':Act):Nat:=match a'.tmps.getD i undef with| .int _ n=>n.toNat|_=>0
theorem Cn{α:Type}{L:List α}{i:Nat}{x:α}(hx:L[i]?=some x):L.drop i=x::L.drop (i+1):=by
 exact jZ113
theorem gracePaid_any(f d:Int)(L:List Ev)(ad:Option Addr)(cap n:Nat)(w:World)(hr:Reads w 5 (.slice ad n cap) n (L.flatMap Ev.cells))(hN:L.length=n)(hn:n≤1000000)(hok:∀x∈L,x.kind=2→0≤x.amount∧x.amount≤1000000000000000):
  Calls Tryz.prog 149 #[.int .i64 f,.int .i64 d,.slice ad n cap] w fun e w'=>e= .returned (.tuple #[.int .i64 (paidS f d L 0),.int .i64 0])∧Keeps (fun _=>False) w w':=by
 obtain⟨R,hR⟩:∃R,paidS f d L 0=R:=⟨_,rfl⟩
 rw [hR]
 obtain⟨Hr,HN,Hok,HR⟩:=hid4 hr hN hok hR;clear hR hok hN hr
 go_enter Tryz.func149,Tryz.ntmps149
 go_wp2
 refine Cs 0 (gpJ w f d (.slice ad n cap) L n R) (fun a' _=>n-slotNat9 9 a') rfl ?_ ?_
 ·rintro a' W ⟨k,s,u,rfl,hk,hkn,s0,s1,hR2⟩
  unfold gpFr
  by_cases hlt:k<n
  ·have hltI:(k:Int)<(n:Int):=by omega
   have hneI:((k:Int)==(n:Int))=false:=beq_eq_false_iff_ne.2 (by omega)
   obtain⟨x,hx⟩:=Av (L:=L) (k:=k) (by rw [HN.out];exact hlt)
   obtain⟨g,o,c,he,hc⟩:=(Hr.out.keeps hk (by simp)).elem Ev.Am hx (by decide)
   simp only [Value.slice.injEq,true_and] at he
   obtain⟨rfl,rfl⟩:=he
   have hok1:=Hok.out x (List.mem_of_getElem? hx)
   obtain⟨ki,da,tr,am,re⟩:=x
   have x0:W.cell? ⟨g,o+k*5,none⟩=some (.int .i64 ki):=hc 0 (by decide)
   have x1:W.cell? ⟨g,o+k*5+1,none⟩=some (.int .i64 da):=hc 1 (by decide)
   have x2:W.cell? ⟨g,o+k*5+2,none⟩=some (.int .i64 tr):=hc 2 (by decide)
   have x3:W.cell? ⟨g,o+k*5+3,none⟩=some (.int .i64 am):=hc 3 (by decide)
   have x4:W.cell? ⟨g,o+k*5+4,none⟩=some (.int .i64 re):=hc 4 (by decide)
   have xl:=Ag x0
   simp only at hok1
   clear hc
   obtain⟨Hk,Hx,HR2⟩:=hid3 hk hx hR2;clear hR2 hx hk
   by_cases e1:ki=2
   ·subst e1
    obtain⟨a0,a1⟩:=hok1 rfl
    by_cases e2:f≤da
    ·have e2I:decide (f≤da)=true:=by simp [e2]
     by_cases e3:da≤d
     ·have e3I:decide (da≤d)=true:=by simp [e3]
      have a0I:decide (am<0)=false:=by rw [decide_eq_false_iff_not];omega
      have a1I:decide (1000000000000000<am)=false:=by rw [decide_eq_false_iff_not];omega
      rcases Int.lt_trichotomy (s+am) 1000000000000000 with m2|m2|m2
      ·skip
       have hst:paidS f d (L.drop (k+1)) (s+am)=R:=by rw [←HR2.out,Cn Hx.out];simp only [paidS];rw [if_pos (by simp [payQ];omega)];congr 1;unfold minI;split<;>omega
       have Hst:=Lib.hid hst;clear hst
       go_wp2_with fail
       go_step3
       go_wp2
       exact Az ⟨gpJ.mk (k+1) (s+am) rfl (Hk.out.trans (Keeps.alloc _ _)) (by omega) (by omega) (by omega) Hst.out,by simp [slotNat9];omega⟩
      ·exact jZ40
      ·exact jZ40
     ·have e3I:decide (da≤d)=false:=by simp [e3]
      exact jZ30
    ·have e2I:decide (f≤da)=false:=by simp [e2]
     exact jZ30
   ·have e1I:(ki==2)=false:=beq_eq_false_iff_ne.2 e1
    exact jZ30
  ·obtain rfl:k=n:=by omega
   rw [List.drop_eq_nil_of_le (by rw [HN.out];exact Nat.le_refl _)] at hR2
   simp only [paidS] at hR2
   subst hR2
   have Hk:=Lib.hid hk;clear hk
   have hkk:((k:Int)==(k:Int))=true:=by simp
   go_wp2
   refine Bl ?_
   exact bodyPost_ret (v:= .tuple #[.int .i64 s,.int .i64 0]) (by simp [results,Tryz.results149,go_sem]) rfl ⟨rfl,Hk.out⟩
 ·intro hfirst
  have Hfirst:=Lib.hid hfirst;clear hfirst
  go_wp2
  go_step3
  rename_i hK
  refine hK _ _ ?_
  refine Hfirst.out _ _ ?_
  exact gpJ.mk 0 0 rfl (Keeps.refl _ _) (Nat.zero_le _) (Int.le_refl _) (by decide) HR.out
def hasB(owed f d:Int)(L:List Ev):Bool:=decide (owed≤0)||decide (owed≤paidS f d L 0)
set_option maxHeartbeats 800000
theorem graceHas_any(owed f d:Int)(L:List Ev)(ad:Option Addr)(cap n:Nat)(w:World)(hr:Reads w 5 (.slice ad n cap) n (L.flatMap Ev.cells))(hN:L.length=n)(hn:n≤1000000)(hok:∀x∈L,x.kind=2→0≤x.amount∧x.amount≤1000000000000000):
  Calls Tryz.prog 125 #[.int .i64 owed,.int .i64 f,.int .i64 d,.slice ad n cap] w fun e w'=>e= .returned (.tuple #[.bool (hasB owed f d L),.int .i64 0])∧Keeps (fun _=>False) w w':=by
 have hp:=gracePaid_any f d L ad cap n w hr hN hn hok
 unfold hasB
 obtain⟨p,hpp⟩:∃p,paidS f d L 0=p:=⟨_,rfl⟩
 rw [hpp] at hp⊢
 obtain⟨b1,h1⟩:∃b,decide (owed≤0)=b:=⟨_,rfl⟩
 obtain⟨b2,h2⟩:∃b,decide (owed≤p)=b:=⟨_,rfl⟩
 rw [h1,h2]
 obtain⟨Hr,HN,Hok,Hp,Hpp⟩:=hid5 hr hN hok hp hpp;clear hpp hp hok hN hr
 rcases b1 with _|_<;>rcases b2 with _|_
 all_goals
  go_enter Tryz.func125,Tryz.ntmps125
  go_wp2_with fail
  refine Hp.out.mono ?_
  rintro e w1 ⟨rfl,hk1⟩
  have Hk1:=Lib.hid hk1;clear hk1
  go_wp2
  first
   |exact bodyPost_ret (v:= .tuple #[.bool true,.int .i64 0]) (by simp [results,Tryz.results125,go_sem]) rfl ⟨rfl,Hk1.out⟩
   |exact bodyPost_ret (v:= .tuple #[.bool false,.int .i64 0]) (by simp [results,Tryz.results125,go_sem]) rfl ⟨rfl,Hk1.out⟩
structure SI where
 ad:Option Addr
 cap:Nat
 L:List Int
def SI.v(x:SI):Value:= .slice x.ad x.L.length x.cap
def SI.cells(x:SI):List Value:= [x.v]
theorem SI.Am(x:SI):x.cells.length=1:=rfl
def SIs(w:World)(S:List SI):Prop:=∀x∈S,Reads w 1 x.v x.L.length (x.L.flatMap i64c)∧x.L.length≤maxLen
theorem SIs.keep{w w':World}{S:List SI}(h:SIs w S)(hk:Keeps (fun _=>False) w w'):SIs w' S:=fun x hx=>⟨(h x hx).1.keeps hk (by simp),(h x hx).2⟩
theorem info_tBool:(Tryz.prog.info? 4).map (fun i=>(i.zero,i.size,i.bytes))=some (some (.bool false),1,1):=by kernel_rfl
def boolc(b:Bool):List Value:= [.bool b]
theorem boolc_length(b:Bool):(boolc b).length=1:=rfl
def RowB(W:World)(g n cap:Nat)(O:List Bool):Prop:=W.ownsRow 0 4 1 (.slice (some ⟨g,0,none⟩) n cap) n (O.flatMap boolc)∧O.length=n
theorem RowB.cell{W:World}{g n cap:Nat}{O:List Bool}(h:RowB W g n cap O){k:Nat}{x:Bool}(hx:O[k]?=some x):W.cell? ⟨g,k,none⟩=some (.bool x):=by
 obtain⟨h,rfl⟩:=h
 have:=Bi boolc_length h hx 0 (by decide)
 exact jZ83
theorem RowB.free{W:World}{g n cap:Nat}{O:List Bool}(h:RowB W g n cap O)(j:Nat):W.frozen? ⟨g,j,none⟩=false:=by
 exact jZ41
theorem RowB.set{W:World}{g n cap:Nat}{O:List Bool}(h:RowB W g n cap O){k:Nat}(hk:k<n)(x:Bool):RowB (W.setCell ⟨g,k,none⟩ (.bool x)) g n cap (O.set k x):=by
 obtain⟨h1,h2⟩:=h
 obtain⟨y,hy⟩:=Av (L:=O) (k:=k) (by omega)
 subst h2
 have:=owns_store boolc_length h1 hy 0 (by decide) (y:=x) (u:= .bool x) rfl
 simp only [Nat.mul_one,Nat.add_zero] at this
 exact⟨this,by simp⟩
theorem RowB.lt{W:World}{g n cap:Nat}{O:List Bool}(h:RowB W g n cap O):g<W.heap.size:=Bu h.1 rfl
theorem made_bools(n:Nat):(madeCells (Value.bool false).cells n).toList=(List.replicate n false).flatMap boolc:=by
 have hL:((List.replicate n false).flatMap boolc).length=n:=by rw [Dl boolc_length];simp
 have hM:(madeCells (Value.bool false).cells n).toList.length=n:=by simp [madeCells]
 apply List.ext_getElem?
 intro i
 by_cases h:i<n
 ·have h2:((List.replicate n false).flatMap boolc)[i]?=some (.bool false):=by
   have:=flat_get boolc_length (L:=List.replicate n false) (k:=i) (j:=0) (x:=false) (by simp [h]) (by decide)
   exact jZ83
  rw [h2]
  simp [madeCells,Value.cells,h,Nat.mod_one]
 ·rw [List.getElem?_eq_none (by omega),List.getElem?_eq_none (by omega)]
theorem RowB.made(w:World)(n:Nat)(hn:n≤maxLen):RowB (w.alloc (.cells (madeCells (Value.bool false).cells n) 4)) w.heap.size n n (List.replicate n false):=by
 have hL:((List.replicate n false).flatMap boolc).length=n*1:=by rw [Dl boolc_length];simp
 refine⟨⟨hL,.inr ⟨_,_,_,rfl,Nat.zero_le _,heap_alloc_new w _,Nat.le_refl _,hn,by simp [madeCells], ?_⟩⟩,by simp⟩
 rw [made_bools,List.take_of_length_le (by rw [hL];exact Nat.le_refl _)]
def SeenL(n:Nat)(T:List Int)(O:List Bool):Prop:=∀j:Nat,j<n→O[j]?=some (decide (((j:Int)+1)∈T))
theorem SeenL.snoc{n:Nat}{T:List Int}{O:List Bool}(h:SeenL n T O)(hO:O.length=n){k:Int}{i:Nat}(hi:(i:Int)=k-1)(hin:i<n):SeenL n (T++ [k]) (O.set i true):=by
 intro j hj
 by_cases e:i=j
 ·subst e
  rw [List.getElem?_set_self (by omega)]
  have:(i:Int)+1=k:=by omega
  simp [this]
 ·rw [List.getElem?_set_ne e,h j hj]
  have:¬(j:Int)+1=k:=by omega
  simp [this]
set_option maxHeartbeats 1600000
theorem fallOrdered_any(L:List Int)(ad:Option Addr)(cap n m:Nat)(w:World)(hr:Reads w 1 (.slice ad m cap) m (L.flatMap i64c))(hM:L.length=m)(hok:∀k∈L,1≤k∧k≤n)(hnd:L.Nodup)(hn:n≤1000)(hm:m≤1000):
  Calls Tryz.prog 163 #[.slice ad m cap,.int .i64 ((n:Nat):Int)] w fun e w'=>e= .returned (.bool true)∧Keeps (fun _=>False) w w':=by
 obtain⟨i0,hi,hi0,hi1,hi2⟩:=info_parts info_tBool
 have hmk:=fun(W:World)=>run_makeSlice (P:=Tryz.prog) W 232 4 i0 (.bool false) Tryz.underlying232 hi hi0 .i64 .i64 (n:Int) (n:Int) (by omega) (by omega) (by rw [hi1];omega) (by rw [hi2];omega) (by omega)
 simp only [Int.toNat_natCast,hi1,Nat.mul_one] at hmk
 obtain⟨Z,hZ⟩:∃Z,Z=madeCells (Value.bool false).cells n:=⟨_,rfl⟩
 rw [←hZ] at hmk
 obtain⟨Hr,HM,Hok,Hnd,Hi,Hi0,Hi1,Hi2,HZ⟩:=hid9 hr hM hok hnd hi hi0 hi1 hi2 hZ;clear hZ hi2 hi1 hi0 hi hnd hok hM hr
 go_enter Tryz.func163,Tryz.ntmps163
 go_wp2
 have hmd:=RowB.made w n (by unfold maxLen;omega)
 rw [←HZ.out] at hmd
 go_loopw [12] (fun x wx=>∃(i:Nat) (O:List Bool),x= .int .i64 (i:Nat)∧i≤m∧RowB wx w.heap.size n n O∧SeenL n (L.take i) O∧Keeps (fun _=>False) w wx) (fun x _=>m-(intOf x).toNat)
 case atStart=>exact⟨0,_,rfl,Nat.zero_le _,hmd,fun j hj=>by simp [hj],by(repeat (first|exact Keeps.refl _ _|exact Keeps.alloc _ _|exact Keeps.drew _|exact Keeps.drewN _ _|refine Keeps.Ap ?_|refine Keeps.Al ?_|refine Keeps.Ae ?_))⟩
 case round=>
  obtain⟨i,O,rfl,him,hrow,hseen,hk⟩:=hrel
  obtain⟨wq,hwq⟩:∃x,x=wr:=⟨_,rfl⟩
  subst hwq
  clear hmd
  by_cases hlt:i<m
  ·have hltI:(i:Int)<(m:Int):=by omega
   obtain⟨k,hx⟩:=Av (L:=L) (k:=i) (by rw [HM.out];exact hlt)
   obtain⟨k1,k2⟩:=Hok.out k (List.mem_of_getElem? hx)
   obtain⟨p,hp⟩:∃p:Nat,(p:Int)=k-1:=⟨(k-1).toNat,by omega⟩
   have hpn:p<n:=by omega
   have hnot:¬k∈L.take i:=by
    intro hmem
    obtain⟨j,hj,hje⟩:=List.mem_iff_getElem.1 hmem
    rw [List.length_take] at hj
    rw [List.getElem_take] at hje
    obtain⟨h1,h2⟩:=List.getElem?_eq_some_iff.1 hx
    exact(List.pairwise_iff_getElem.1 Hnd.out) j i (by omega) h1 (by omega) (hje.trans h2.symm)
   have hO:O[p]?=some false:=by
    rw [hseen p hpn,show(p:Int)+1=k by omega,decide_eq_false hnot]
   obtain⟨gO,oO,he,hcO⟩:=(Hr.out.keeps hk (by simp)).int (k:= .i64) hx
   subst he
   have lO:=Ag hcO
   have ck:=hrow.cell hO
   have fk:=hrow.free p
   have lg:=hrow.lt
   have q1:(0:Int)≤k-1:=by omega
   have q2:k-1<(n:Int):=by omega
   have q3:(k-1).toNat=p:=by omega
   have q4:IntKind.i64.wrap (k-1)=k-1:=IntWalk.i64_in _ ⟨by omega,by omega⟩
   have q5:decide (k<1)=false:=by rw [decide_eq_false_iff_not];omega
   have q6:decide ((n:Int)<k)=false:=by rw [decide_eq_false_iff_not];omega
   have hnew:RowB (wq.setCell ⟨w.heap.size,p,none⟩ (.bool true)) w.heap.size n n (O.set p true)∧SeenL n (L.take (i+1)) (O.set p true)∧Keeps (fun _=>False) w (wq.setCell ⟨w.heap.size,p,none⟩ (.bool true)):=
    ⟨hrow.set hpn true,by rw [take_snoc' hx];exact hseen.snoc hrow.2 hp hpn,hk.trans (Keeps.setCell _ _ _ (.inr (Nat.le_refl _)))⟩
   obtain⟨Hrow,Hseen,Hk,Hx,Hp,Hnot,HO,Hnew⟩:=hid8 hrow hseen hk hx hp hnot hO hnew;clear hnew hO hnot hp hx hk hseen hrow
   go_wp2
   go_roundw
   case rel=>exact⟨i+1,_,by go_num,by omega,Hnew.out.1,Hnew.out.2.1,Hnew.out.2.2⟩
   case measure=>simp [intOf];omega
  ·obtain rfl:i=m:=by omega
   obtain⟨Hrow,Hseen,Hk⟩:=hid3 hrow hseen hk;clear hk hseen hrow
   go_wp2
   go_ret
   exact⟨rfl,Hk.out⟩
theorem fallMay_at{L:List Int}{b:Bool}{n:Nat}(hb:L.all moneyP=b)(hN:L.length=n)(hl:n≤1000)(ad:Option Addr)(cap:Nat)(w:World)(hr:Reads w 1 (.slice ad n cap) n (L.flatMap i64c)):
  Calls Tryz.prog 158 #[.slice ad n cap] w fun e w'=>e= .returned (.bool b)∧w=w':=by
 subst hN;subst hb;exact fallMay_any ad cap L w hr hl
structure OrdOk(n:Nat)(O:List Int):Prop where
 ok:∀k∈O,1≤k∧k≤n
 nd:O.Nodup
theorem fallInto_any (B O : List Int) (a : Int) (adB adO : Option Addr) (cB cO n m : Nat) (w : World) (hB : Reads w 1 (.slice adB n cB) n (B.flatMap i64c)) (hN : B.length = n) (hO : Reads w 1 (.slice adO m cO) m (O.flatMap i64c)) (hM : O.length = m) (hm : B.all moneyP = true) (ha : moneyP a = true)
    (hord : OrdOk n O) (hl : n ≤ 1000) (hl2 : m ≤ 1000) : Calls Tryz.prog 148 #[.slice adB n cB, .slice adO m cO, .int .i64 a] w fun e w' => ∃ g, e = .returned (.tuple #[.slice (some ⟨g, 0, none⟩) n n, .int .i64 (intoL B O a).2, .int .i64 0]) ∧ RowZ w' 2 g n n (intoL B O a).1 ∧ Keeps (fun _ => False) w w' ∧ w.heap.size ≤ g := by
  have hin := fun W (hW : Keeps (fun _ => False) w W) => fallInto0_any B O a adB adO cB cO W (by rw [hN]; exact hB.keeps hW (by simp)) (by rw [hM]; exact hO.keeps hW (by simp)) (fun x hx => (Bg x).1 (List.all_eq_true.1 hm x hx)) ((Bg a).1 ha) (by rw [hN]; exact hord.ok) (by omega) (by omega)
  have hrl := Cj B O a
  rw [hN] at hrl
  obtain ⟨r, hr⟩ : ∃ r, intoL B O a = r := ⟨_, rfl⟩
  rw [hr] at hin hrl ⊢
  unfold IntoPost at hin
  rw [hN, hM, hrl] at hin
  have hof := fun W (hW : Keeps (fun _ => False) w W) => fallOrdered_any O adO cO n m W (hO.keeps hW (by simp)) hM hord.ok hord.nd hl hl2
  have hmb := fun W (hW : Keeps (fun _ => False) w W) => fallMay_at hm hN hl adB cB W (hB.keeps hW (by simp))
  have hma := fun W g (hT : Reads W 1 (.slice (some ⟨g, 0, none⟩) 1 1) 1 ([a].flatMap i64c)) => fallMay_at (L := [a]) (b := true) (by simp [ha]) rfl (by simp) (some ⟨g, 0, none⟩) 1 W hT
  obtain ⟨HB, HO, Hm, Ha, Hord, Hin, Hr, Hrl, Hof⟩ := hid9 hB hO hm ha hord hin hr hrl hof; clear hof hrl hr hin hord ha hm hO hB; obtain ⟨Hmb, Hma, HN, HM⟩ := hid4 hmb hma hN hM; clear hM hN hma hmb
  go_enter Tryz.func148, Tryz.ntmps148
  go_wp2_with fail
  refine (Hof.out _ (Keeps.refl _ _)).mono ?_
  rintro e w1 ⟨rfl, hk1⟩
  have Hk1 := Lib.hid hk1; clear hk1
  go_wp2_with fail
  refine (Hmb.out _ Hk1.out).mono ?_
  rintro e w2 ⟨rfl, rfl⟩
  go_wp2_with fail
  refine (Hma.out _ _ (Reads.litAt _ _ _ 1 1 _ (by simp) rfl)).mono ?_
  rintro e w3 ⟨rfl, rfl⟩
  go_wp2_with fail
  refine (Hin.out _ (Hk1.out.trans (Keeps.alloc _ _))).mono ?_
  rintro e w4 ⟨g, rfl, hrow, hk4, hg⟩
  have hfin : Keeps (fun _ => False) w w4 := (Hk1.out.trans (Keeps.alloc _ _)).nt hk4
  have hgg : w.heap.size ≤ g := by have h1 := Hk1.out.size; have h2 := hg
                                   simp at h2
                                   omega
  obtain ⟨Hrow, Hk4, Hg, Hfin, Hgg⟩ := hid5 hrow hk4 hg hfin hgg; clear hgg hfin hg hk4 hrow
  go_wp2
  exact bodyPost_ret (v := .tuple #[.slice (some ⟨g, 0, none⟩) n n, .int .i64 r.2, .int .i64 0]) (by simp [results, Tryz.results148, go_sem]) rfl ⟨g, rfl, Hrow.out, Hfin.out, Hgg.out⟩
def stepL(f:Int→Int→Int)(B P:List Int)(i:Nat):List Int:=(List.zipWith f B P).take i++B.drop i
theorem stepL_zero(f:Int→Int→Int)(B P:List Int):stepL f B P 0=B:=by simp [stepL]
theorem stepL_full{f:Int→Int→Int}{B P:List Int}(h:P.length=B.length){n:Nat}(hn:B.length=n):stepL f B P n=List.zipWith f B P:=by
 subst hn
 unfold stepL
 rw [List.drop_eq_nil_of_le (Nat.le_refl _),List.append_nil,List.take_of_length_le (by rw [List.length_zipWith];omega)]
theorem stepL_get{f:Int→Int→Int}{B P:List Int}(h:P.length=B.length){i:Nat}{x:Int}(hx:B[i]?=some x):(stepL f B P i)[i]?=some x:=by
 obtain⟨h1,h2⟩:=List.getElem?_eq_some_iff.1 hx
 unfold stepL
 rw [List.getElem?_append_right (by simp only [List.length_take,List.length_zipWith];omega)]
 simp only [List.length_take,List.length_zipWith,List.getElem?_drop]
 rw [show i+(i-min i (min B.length P.length))=i by omega]
 exact hx
theorem stepL_set{f:Int→Int→Int}{B P:List Int}(h:P.length=B.length){i:Nat}{x y:Int}(hx:B[i]?=some x)(hy:P[i]?=some y):(stepL f B P i).set i (f x y)=stepL f B P (i+1):=by
 obtain⟨h1,h2⟩:=List.getElem?_eq_some_iff.1 hx
 have hz:(List.zipWith f B P)[i]?=some (f x y):=by rw [List.getElem?_zipWith,hx,hy]
 have hl:((List.zipWith f B P).take i).length=i:=by simp only [List.length_take,List.length_zipWith];omega
 unfold stepL
 rw [List.set_append_right _ _ (by omega),hl,Nat.sub_self,List.drop_eq_getElem_cons h1,List.set_cons_zero,take_snoc' hz,List.append_assoc]
 rfl
theorem zip_sub_bd{B P:List Int}(hP:∀j x,P[j]?=some x→0≤x∧x≤B.getD j 0)(hB:∀x∈B,0≤x∧x≤1000000000000000):∀x∈List.zipWith (· - ·) B P,0≤x∧x≤1000000000000000:=by
 intro z hz
 obtain⟨j,hj⟩:=List.mem_iff_getElem?.1 hz
 rw [List.getElem?_zipWith] at hj
 rcases hb:B[j]? with _|b
 ·rw [hb] at hj;simp at hj
 ·rcases hp:P[j]? with _|p
  ·rw [hb,hp] at hj;simp at hj
  ·rw [hb,hp] at hj
   simp only [Option.some.injEq] at hj
   have h1:=hP j p hp
   rw [List.getD_eq_getElem?_getD,hb] at h1
   have h2:=hB b (List.mem_of_getElem? hb)
   simp only [Option.getD_some] at h1
   omega
def payL(B R:List Int)(du a:Int):List Int×Int×Int:=
 let m:=minI a du
 let p:=intoL B (rankL false R) m
 let q:=intoL (List.zipWith (· - ·) B p.1) (rankL true R) (a-m+p.2)
 (List.zipWith (·+·) p.1 q.1,m,q.2)
theorem fallInto0_go(B O:List Int)(r:List Int×Int)(a:Int)(adB:Option Addr)(v:Value)(cB n:Nat)(w:World)(hB:Reads w 1 (.slice adB n cB) n (B.flatMap i64c))(hN:B.length=n)(hO:w.ownsRow 0 3 1 v n (O.flatMap i64c))(hM:O.length=n)(hm:∀x∈B,0≤x∧x≤1000000000000000)(ha:0≤a∧a≤1000000000000000)
  (hok:∀k∈O,1≤k∧k≤n) (hl:n≤1000) (hr:intoL B O a=r):Calls Tryz.prog 159 #[.slice adB n cB,v,.int .i64 a] w fun e w'=>∃g,e= .returned (.tuple #[.slice (some ⟨g,0,none⟩) n n,.int .i64 r.2])∧RowZ w' 2 g n n r.1∧Keeps (fun _=>False) w w'∧w.heap.size≤g:=by
 obtain⟨ad,c,rfl,_,_⟩:=Aj hO
 have hr2:=Reads.Bh hO
 have h:=fallInto0_any B O a adB ad cB c w (by rw [hN];exact hB) (by rw [hM];exact hr2) hm ha (by rw [hN];exact hok) (by omega) (by omega)
 have hrl:=Cj B O a
 unfold IntoPost at h
 rw [hr] at h hrl
 rw [hN,hM] at h
 rw [hrl,hN] at h
 exact h
theorem p1bd{B P:List Int}(hP:∀j x,P[j]?=some x→0≤x∧x≤B.getD j 0)(hB:∀x∈B,0≤x∧x≤1000000000000000){j:Nat}{x:Int}(hx:P[j]?=some x):0≤x∧x≤1000000000000000:=by
 have h:=hP j x hx
 rw [List.getD_eq_getElem?_getD] at h
 rcases hb:B[j]? with _|b
 ·rw [hb] at h;simp only [Option.getD_none] at h;omega
 ·rw [hb] at h
  have:=hB b (List.mem_of_getElem? hb)
  simp only [Option.getD_some] at h;omega
set_option maxHeartbeats 3200000
theorem fallPay_any(B R:List Int)(cr du a:Int)(adB adR:Option Addr)(cB cR n:Nat)(w:World)(hB:Reads w 1 (.slice adB n cB) n (B.flatMap i64c))(hN:B.length=n)(hR:Reads w 1 (.slice adR n cR) n (R.flatMap i64c))(hRn:R.length=n)
  (hm:B.all moneyP=true) (hcr:moneyP cr=true) (hdu:moneyP du=true) (ha:moneyP a=true) (hn1:1≤n) (hl:n≤8):
  Calls Tryz.prog 146 #[.agg #[.slice adB n cB,.int .i64 cr,.int .i64 du],.slice adR n cR,.int .i64 a] w fun e w'=>∃g,e= .returned (.tuple #[.slice (some ⟨g,0,none⟩) n n,.int .i64 (payL B R du a).2.1,.int .i64 (payL B R du a).2.2,.int .i64 0])∧RowZ w' 2 g n n (payL B R du a).1∧Keeps (fun _=>False) w w'∧w.heap.size≤g:=by
 have hBb:∀x∈B,0≤x∧x≤1000000000000000:=fun x hx=>(Bg x).1 (List.all_eq_true.1 hm x hx)
 obtain⟨a0,a1⟩:=(Bg a).1 ha
 obtain⟨du0,du1⟩:=(Bg du).1 hdu
 obtain⟨m,hmin⟩:∃m,minI a du=m:=⟨_,rfl⟩
 have hm2:0≤m∧m≤a∧m≤du:=by rw [←hmin];unfold minI;split<;>omega
 obtain⟨m0,m1,m2⟩:=hm2
 obtain⟨p1,r1,hp⟩:∃p1 r1,intoL B (rankL false R) m=(p1,r1):=⟨_,_,rfl⟩
 obtain⟨q1,r2,hq⟩:∃q1 r2,intoL (List.zipWith (· - ·) B p1) (rankL true R) (a-m+r1)=(q1,r2):=⟨_,_,rfl⟩
 have hpay:payL B R du a=(List.zipWith (·+·) p1 q1,m,r2):=by unfold payL;rw [hmin];simp only;rw [hp];simp only;rw [hq]
 rw [hpay]
 have hokL:∀k∈rankL false R,1≤k∧k≤n:=fun k hk=>by have:=Dc hk;omega
 have hokH:∀k∈rankL true R,1≤k∧k≤n:=fun k hk=>by have:=Dc hk;omega
 have hpb:=intoL_bd (B:=B) (O:=rankL false R) (a:=m) (fun x hx=>(hBb x hx).1) m0 (by rw [hN];exact hokL)
 have hpl:=Cj B (rankL false R) m
 rw [hp] at hpb hpl
 simp only at hpb hpl
 obtain⟨r10,r11,hpe⟩:=hpb
 have hB2:=zip_sub_bd hpe hBb
 have hB2l:(List.zipWith (fun x y:Int=>x-y) B p1).length=n:=by rw [List.length_zipWith];omega
 have hqb:=intoL_bd (B:=List.zipWith (· - ·) B p1) (O:=rankL true R) (a:=a-m+r1) (fun x hx=>(hB2 x hx).1) (by omega) (by rw [hB2l];exact hokH)
 have hql:=Cj (List.zipWith (· - ·) B p1) (rankL true R) (a-m+r1)
 rw [hq] at hqb hql
 simp only at hqb hql
 obtain⟨r20,r21,hqe⟩:=hqb
 rw [hN] at hpl
 rw [hB2l] at hql
 have hmb:=fun W (hW:Keeps (fun _=>False) w W)=>fallMay_at hm hN (by omega) adB cB W (hB.keeps hW (by simp))
 have hma:=fun W g (hT:Reads W 1 (.slice (some ⟨g,0,none⟩) 3 3) 3 ([cr,du,a].flatMap i64c))=>fallMay_at (L:= [cr,du,a]) (b:=true) (by simp [hcr,hdu,ha]) rfl (by simp) (some ⟨g,0,none⟩) 3 W hT
 have hlow:=fun W (hW:Keeps (fun _=>False) w W)=>rankLow_any R adR cR W (by rw [hRn];exact hR.keeps hW (by simp)) (by omega)
 have hhigh:=fun W (hW:Keeps (fun _=>False) w W)=>rankHigh_any R adR cR W (by rw [hRn];exact hR.keeps hW (by simp)) (by omega)
 rw [hRn] at hlow hhigh
 have hin1:=fun W v (hW:Keeps (fun _=>False) w W) (hO:W.ownsRow 0 3 1 v n ((rankL false R).flatMap i64c))=>fallInto0_go B (rankL false R) (p1,r1) m adB v cB n W (hB.keeps hW (by simp)) hN hO (by rw [rankL_length,hRn]) hBb ⟨m0,by omega⟩ hokL (by omega) hp
 have hbx:∀W,Keeps (fun _=>False) (w.alloc (.cells #[.slice adB n cB,.int .i64 cr,.int .i64 du] 34)) W→W.heap[w.heap.size]?=some (.cells #[.slice adB n cB,.int .i64 cr,.int .i64 du] 34 (0,0)):=fun W hW=>Ad (heap_alloc_new w _) hW (by simp)
 simp only at hin1
 obtain⟨HB,HR,Hm,Hcr,Hdu,Ha,HBb,Hmin,Hp⟩:=hid9 hB hR hm hcr hdu ha hBb hmin hp;clear hp hmin hBb ha hdu hcr hm hR hB;obtain⟨Hq,Hpay,HokL,HokH,Hpe,HB2,HB2l,Hqe,Hpl⟩:=hid9 hq hpay hokL hokH hpe hB2 hB2l hqe hpl;clear hpl hqe hB2l hB2 hpe hokH hokL hpay hq;obtain⟨Hql,Hmb,Hma,Hlow,Hhigh,Hin1,Hbx,HN,HRn⟩:=hid9 hql hmb hma hlow hhigh hin1 hbx hN hRn;clear hRn hN hbx hin1 hhigh hlow hma hmb hql
 go_enter Tryz.func146,Tryz.ntmps146
 go_wp2_with fail
 refine(Hmb.out _ (by(repeat (first|exact Keeps.refl _ _|exact Keeps.alloc _ _|exact Keeps.drew _|exact Keeps.drewN _ _|refine Keeps.Ap ?_|refine Keeps.Al ?_|refine Keeps.Ae ?_)))).mono ?_
 rintro e w1 ⟨rfl,rfl⟩
 go_wp2_with fail
 refine(Hma.out _ _ (Reads.litAt _ #[.int .i64 cr,.int .i64 du,.int .i64 a] 2 1 3 _ (by first|rfl|simp) rfl)).mono ?_
 rintro e w2 ⟨rfl,rfl⟩
 obtain⟨W0,hW0⟩:∃x,x=(w.alloc (.cells #[.slice adB n cB,.int .i64 cr,.int .i64 du] 34)).alloc (.cells #[.int .i64 cr,.int .i64 du,.int .i64 a] 2):=⟨_,rfl⟩
 rw [←hW0]
 have hb0:=Hbx.out W0 (by rw [hW0];exact Keeps.alloc _ _)
 have hk0:Keeps (fun _=>False) w W0:=by rw [hW0];(repeat (first|exact Keeps.refl _ _|exact Keeps.alloc _ _|exact Keeps.drew _|exact Keeps.drewN _ _|refine Keeps.Ap ?_|refine Keeps.Al ?_|refine Keeps.Ae ?_))
 have b0:=Aa hb0 0
 have b2:=Aa hb0 2
 have bl:=lt_of_block hb0
 obtain⟨Hb0,Hk0,HW0⟩:=hid3 hb0 hk0 hW0;clear hW0 hk0 hb0
 go_upto_region 3 with fail
 go_cut [10] (fun x wx=>x= .int .i64 m∧W0=wx)
 case first=>
  have hmn:=Hmin.out
  unfold minI at hmn
  by_cases hle:a≤du
  ·rw [if_pos hle] at hmn
   exact jZ116
  ·rw [if_neg hle] at hmn
   exact jZ116
 obtain⟨rfl,rfl⟩:=hcut
 go_wp2_with fail
 refine Ao (fun w'=>w'.cell? ⟨w.heap.size,0,none⟩=some (.slice adB n cB)) (.take 0 (.take 1 (.take 2 (.take 4 (.move 3 (.move 5 (.take 6 (.take 7 (.take 8 (.take 9 (.take 10 .done))))))))))) (by kernel_rfl) (by kernel_rfl) ?_ ?_
 ·exact Aa (Ad (S:=fun _=>False) Hb0.out (Keeps.drew _) (by simp)) 0
 intro w3 hs3 hk3
 have hk3w:Keeps (fun _=>False) w w3:=Hk0.out.nt hk3
 have hlt3:=Ag hs3
 obtain⟨Hs3,Hk3,Hk3w,Hlt3⟩:=hid4 hs3 hk3 hk3w hlt3;clear hlt3 hk3w hk3 hs3
 repeat ((first|refine Ai rfl (by rfl) ?_|refine Af rfl (by rfl) ?_|(refine Ah (v:= ?_) rfl (by rfl) ?_ ?_;rotate_left;(· intro w' hSw;(try dsimp only at hSw);go_simp;(try with_reducible rfl));rotate_right));try simp only [aps])
 refine Ak rfl (fun K hK=> ?_)
 go_simp
 go_at_call 160
 ((with_reducible refine(Hlow.out _ Hk3w.out).mono ?_);rintro e w4 ⟨v4,rfl,hrow4,hf4⟩;dsimp only)
 refine hK.out _ _ (by exact(hf4.1.cell (p:=⟨w.heap.size,0,none⟩) Hlt3.out (by simp)).trans Hs3.out) ?_
 clear hK K
 try simp only [aps]
 have hk4w:Keeps (fun _=>False) w w4:=Hk3w.out.nt hf4.1
 have hs4:=(hf4.1.cell (p:=⟨w.heap.size,0,none⟩) Hlt3.out (by simp)).trans Hs3.out
 have hb4:=Ad (Ad Hb0.out Hk3.out (by simp)) hf4.1 (by simp)
 have hlt4:=Ag hs4
 obtain⟨Hrow4,Hf4,Hk4w,Hs4,Hlt4,Hb4⟩:=hid6 hrow4 hf4 hk4w hs4 hlt4 hb4;clear hb4 hlt4 hs4 hk4w hf4 hrow4
 repeat ((first|refine Ai rfl (by rfl) ?_|refine Af rfl (by rfl) ?_|(refine Ah (v:= ?_) rfl (by rfl) ?_ ?_;rotate_left;(· intro w' hSw;(try dsimp only at hSw);go_simp;(try with_reducible rfl));rotate_right));try simp only [aps])
 refine Ak rfl (fun K hK=> ?_)
 go_simp
 go_at_call 159
 ((with_reducible refine(Hin1.out _ _ Hk4w.out Hrow4.out).mono ?_);rintro e w5 ⟨g1,rfl,hrow5,hk5,hg5⟩;dsimp only)
 refine hK.out _ _ (by exact(hk5.cell (p:=⟨w.heap.size,0,none⟩) Hlt4.out (by simp)).trans Hs4.out) ?_
 clear hK K
 try simp only [aps]
 have hk5w:Keeps (fun _=>False) w w5:=Hk4w.out.nt hk5
 have hb5:=Ad Hb4.out hk5 (by simp)
 have hg5w:w.heap.size≤g1:=by have:=Hk4w.out.size;omega
 obtain⟨Hrow5,Hk5,Hg5,Hk5w,Hb5,Hg5w⟩:=hid6 hrow5 hk5 hg5 hk5w hb5 hg5w;clear hg5w hb5 hk5w hg5 hk5 hrow5
 repeat ((first|refine Ai rfl (by rfl) ?_|refine Af rfl (by rfl) ?_|(refine Ah (v:= ?_) rfl (by rfl) ?_ ?_;rotate_left;(· intro w' hSw;(try dsimp only at hSw);go_simp;(try with_reducible rfl));rotate_right));try simp only [aps])
 refine Aw ?_
 have b50:=Aa Hb5.out 0
 have b5l:=lt_of_block Hb5.out
 clear b0 b2 bl
 go_wp2_with fail
 refine(Dg _ _ n _ (HB.out.keeps Hk5w.out (by simp)) (i64c_one _) (by omega)).mono ?_
 rintro e w6 ⟨v6,rfl,hrow6,hk6,hnew6⟩
 obtain⟨g2,c2,rfl⟩:=Df hrow6 hn1
 have hg2:w5.heap.size≤g2:=hnew6 g2 rfl
 have hlt1:=Hrow5.out.lt
 have hg12:¬g1=g2:=by omega
 have hg2w:w.heap.size≤g2:=by have:=Hk5w.out.size;omega
 have hr1:=Hrow5.out.keep hk6
 have hr2:RowZ w6 2 g2 n c2 B:=⟨hrow6,HN.out⟩
 have hk6w:Keeps (fun _=>False) w w6:=Hk5w.out.nt hk6
 clear b50 b5l hlt1
 obtain⟨Hrow6,Hk6,Hnew6,Hg2,Hr1,Hr2,Hk6w,Hg12,Hg2w⟩:=hid9 hrow6 hk6 hnew6 hg2 hr1 hr2 hk6w hg12 hg2w;clear hg2w hg12 hk6w hr2 hr1 hg2 hnew6 hk6 hrow6
 go_wp2
 go_loopw [59] (fun x wx=>∃i:Nat,x= .int .i64 (i:Nat)∧i≤n∧RowZ wx 2 g2 n c2 (stepL (fun x y=>x-y) B p1 i)∧Keeps (fun k=>k=g2) w6 wx) (fun x _=>n-(intOf x).toNat)
 case atStart=>exact⟨0,rfl,Nat.zero_le _,by rw [stepL_zero];exact Hr2.out,Keeps.refl _ _⟩
 case round=>
  obtain⟨i,rfl,hin,hrow,hk⟩:=hrel
  obtain⟨wq,hwq⟩:∃x,x=wr:=⟨_,rfl⟩
  subst hwq
  have hrp:RowZ wq 2 g1 n n p1:=⟨hk.row Hr1.out.1 (fun g' hg e=>by simp only [Value.ownBlock,Option.some.injEq] at hg;subst hg;exact Hg12.out e),Hr1.out.2⟩
  by_cases hlt:i<n
  ·have hltI:(i:Int)<(n:Int):=by omega
   obtain⟨x,hx⟩:=Av (L:=B) (k:=i) (by rw [HN.out];exact hlt)
   obtain⟨y,hy⟩:=Av (L:=p1) (k:=i) (by rw [Hpl.out];exact hlt)
   obtain⟨x0,x1⟩:=HBb.out x (List.mem_of_getElem? hx)
   have hxy:=Hpe.out i y hy
   rw [List.getD_eq_getElem?_getD,hx] at hxy
   obtain⟨y0,y1⟩:=hxy
   simp only [Option.getD_some] at y1
   have ex:=stepL_get (f:=fun x y=>x-y) (P:=p1) (by rw [Hpl.out,HN.out]) hx
   have cx:=hrow.cell ex
   have fx:=hrow.free i
   have cy:=hrp.cell hy
   have lx:=hrow.lt
   have ly:=hrp.lt
   have hst:=stepL_set (f:=fun x y=>x-y) (P:=p1) (by rw [Hpl.out,HN.out]) hx hy
   have hnew:=hrow.set hlt (x-y)
   rw [hst] at hnew
   have hkn:Keeps (fun k=>k=g2) w6 (wq.setCell ⟨g2,i,none⟩ (.int .i64 (x-y))):=hk.trans (Keeps.setCell _ _ _ (.inl rfl))
   obtain⟨Hrow,Hk,Hrp,Hx,Hy,Ex,Hst,Hnew,Hkn⟩:=hid9 hrow hk hrp hx hy ex hst hnew hkn;clear hkn hnew hst ex hy hx hrp hk hrow
   exact jZ114
  ·obtain rfl:i=n:=by omega
   rw [stepL_full (by rw [Hpl.out,HN.out]) HN.out] at hrow
   have hkw:Keeps (fun _=>False) w wq:=Hk6w.out.trans (hk.mono fun k _ e=> .inr (by subst e;exact Hg2w.out))
   obtain⟨Hrow,Hk,Hrp,Hkw⟩:=hid4 hrow hk hrp hkw;clear hkw hrp hk hrow
   go_wp2_with fail
   refine(Hhigh.out _ Hkw.out).mono ?_
   rintro e w7 ⟨v7,rfl,hrow7,hf7⟩
   have hk7w:=Hkw.out.nt hf7.1
   have hrB7:=Hrow.out.keep hf7.1
   have hrp7:=Hrp.out.keep hf7.1
   obtain⟨Hrow7,Hf7,Hk7w,HrB7,Hrp7⟩:=hid5 hrow7 hf7 hk7w hrB7 hrp7;clear hrp7 hrB7 hk7w hf7 hrow7
   go_wp2_with fail
   refine(fallInto0_go _ (rankL true R) (q1,r2) (a-m+r1) (some ⟨g2,0,none⟩) v7 c2 i w7 HrB7.out.reads HrB7.out.2 Hrow7.out (by rw [rankL_length,HRn.out]) HB2.out ⟨by omega,by omega⟩ HokH.out (by omega) Hq.out).mono ?_
   rintro e w8 ⟨g3,rfl,hrow8,hk8,hg3⟩
   have hlt1:=Hrp7.out.lt
   have hg13:¬g1=g3:=by omega
   have hk8w:=Hk7w.out.nt hk8
   have hrp8:=Hrp7.out.keep hk8
   simp only at hrow8
   clear hlt1
   obtain⟨Hrow8,Hk8,Hg3,Hg13,Hk8w,Hrp8⟩:=hid6 hrow8 hk8 hg3 hg13 hk8w hrp8;clear hrp8 hk8w hg13 hg3 hk8 hrow8
   go_wp2
   go_loopw [86] (fun x wx=>∃j:Nat,x= .int .i64 (j:Nat)∧j≤i∧RowZ wx 2 g1 i i (stepL (fun x y=>x+y) p1 q1 j)∧Keeps (fun k=>k=g1) w8 wx) (fun x _=>i-(intOf x).toNat)
   case atStart=>exact⟨0,rfl,Nat.zero_le _,by rw [stepL_zero];exact Hrp8.out,Keeps.refl _ _⟩
   case round=>
    obtain⟨j,rfl,hjn,hrowj,hkj⟩:=hrel
    obtain⟨wz,hwz⟩:∃x,x=wr:=⟨_,rfl⟩
    subst hwz
    have hrq:RowZ wz 2 g3 i i q1:=⟨hkj.row Hrow8.out.1 (fun g' hg e=>by simp only [Value.ownBlock,Option.some.injEq] at hg;subst hg;exact Hg13.out e.symm),Hrow8.out.2⟩
    by_cases hltj:j<i
    ·have hltI:(j:Int)<(i:Int):=by omega
     obtain⟨x,hx⟩:=Av (L:=p1) (k:=j) (by rw [Hpl.out];exact hltj)
     obtain⟨y,hy⟩:=Av (L:=q1) (k:=j) (by rw [Hql.out];exact hltj)
     obtain⟨x0,x1⟩:=p1bd Hpe.out HBb.out hx
     obtain⟨y0,y1⟩:=p1bd Hqe.out HB2.out hy
     have ex:=stepL_get (f:=fun x y=>x+y) (P:=q1) (by rw [Hpl.out,Hql.out]) hx
     have cx:=hrowj.cell ex
     have fx:=hrowj.free j
     have cy:=hrq.cell hy
     have lx:=hrowj.lt
     have ly:=hrq.lt
     have hst:=stepL_set (f:=fun x y=>x+y) (P:=q1) (by rw [Hpl.out,Hql.out]) hx hy
     have hnew:=hrowj.set hltj (x+y)
     rw [hst] at hnew
     have hkn:Keeps (fun k=>k=g1) w8 (wz.setCell ⟨g1,j,none⟩ (.int .i64 (x+y))):=hkj.trans (Keeps.setCell _ _ _ (.inl rfl))
     obtain⟨Hrowj,Hkj,Hrq,Hx,Hy,Ex,Hst,Hnew,Hkn⟩:=hid9 hrowj hkj hrq hx hy ex hst hnew hkn;clear hkn hnew hst ex hy hx hrq hkj hrowj
     exact jZ107
    ·obtain rfl:j=i:=by omega
     rw [stepL_full (by rw [Hpl.out,Hql.out]) Hpl.out] at hrowj
     have hkz:Keeps (fun _=>False) w wz:=Hk8w.out.trans (hkj.mono fun k _ e=> .inr (by subst e;exact Hg5w.out))
     obtain⟨Hrowj,Hkj,Hrq,Hkz⟩:=hid4 hrowj hkj hrq hkz;clear hkz hrq hkj hrowj
     go_wp2
     exact bodyPost_ret (v:= .tuple #[.slice (some ⟨g1,0,none⟩) j j,.int .i64 m,.int .i64 r2,.int .i64 0]) (by simp [results,Tryz.results146,go_sem]) rfl ⟨g1,rfl,Hrowj.out,Hkz.out,Hg5w.out⟩
def payP(p:Ps)(R:List Int)(a:Int):Ps:=⟨List.zipWith (fun x y=>x-y) p.bal (payL p.bal R p.du a).1,p.cr+(payL p.bal R p.du a).2.2,p.du-(payL p.bal R p.du a).2.1⟩
def payR(p:Ps)(R:List Int)(a:Int):Ps×Int:=if askE p [] a=0 then(if(payP p R a).rightB=true then(payP p R a,0) else(ps0,5)) else(ps0,askE p [] a)
theorem payL_bd{B R:List Int}{du a:Int}(hB:∀x∈B,0≤x∧x≤1000000000000000)(hdu:0≤du∧du≤1000000000000000)(ha:0≤a∧a≤1000000000000000)(hR:R.length=B.length):
  (∀(j:Nat) (x:Int),(payL B R du a).1[j]?=some x→0≤x∧x≤2000000000000000)∧(0≤(payL B R du a).2.1∧(payL B R du a).2.1≤du)∧(0≤(payL B R du a).2.2∧(payL B R du a).2.2≤1000000000000000)∧(payL B R du a).1.length=B.length:=by
 obtain⟨m,hmin⟩:∃m,minI a du=m:=⟨_,rfl⟩
 have hm2:0≤m∧m≤a∧m≤du:=by rw [←hmin];unfold minI;split<;>omega
 obtain⟨p1,r1,hp⟩:∃p1 r1,intoL B (rankL false R) m=(p1,r1):=⟨_,_,rfl⟩
 obtain⟨q1,r2,hq⟩:∃q1 r2,intoL (List.zipWith (· - ·) B p1) (rankL true R) (a-m+r1)=(q1,r2):=⟨_,_,rfl⟩
 have hpay:payL B R du a=(List.zipWith (·+·) p1 q1,m,r2):=by unfold payL;rw [hmin];simp only;rw [hp];simp only;rw [hq]
 rw [hpay]
 have hokL:∀k∈rankL false R,1≤k∧k≤B.length:=fun k hk=>by have:=Dc hk;omega
 have hokH:∀k∈rankL true R,1≤k∧k≤B.length:=fun k hk=>by have:=Dc hk;omega
 have hpb:=intoL_bd (B:=B) (O:=rankL false R) (a:=m) (fun x hx=>(hB x hx).1) (by omega) hokL
 have hpl:=Cj B (rankL false R) m
 rw [hp] at hpb hpl
 simp only at hpb hpl
 obtain⟨r10,r11,hpe⟩:=hpb
 have hB2:=zip_sub_bd hpe hB
 have hB2l:(List.zipWith (fun x y:Int=>x-y) B p1).length=B.length:=by rw [List.length_zipWith];omega
 have hqb:=intoL_bd (B:=List.zipWith (· - ·) B p1) (O:=rankL true R) (a:=a-m+r1) (fun x hx=>(hB2 x hx).1) (by omega) (by rw [hB2l];exact hokH)
 have hql:=Cj (List.zipWith (· - ·) B p1) (rankL true R) (a-m+r1)
 rw [hq] at hqb hql
 simp only at hqb hql
 obtain⟨r20,r21,hqe⟩:=hqb
 have e1:a-m+r1≤a:=by omega
 refine⟨fun j x hx=> ?_,⟨by show 0≤m;omega,by show m≤du;omega⟩,⟨by show 0≤r2;omega,by show r2≤1000000000000000;omega⟩,by rw [List.length_zipWith];omega⟩
 simp only [List.getElem?_zipWith] at hx
 rcases h1:p1[j]? with _|x1
 ·rw [h1] at hx;simp at hx
 ·rcases h2:q1[j]? with _|x2
  ·rw [h1,h2] at hx;simp at hx
  ·rw [h1,h2] at hx
   simp only [Option.some.injEq] at hx
   have b1:=p1bd hpe hB h1
   have b2:=p1bd hqe hB2 h2
   omega
theorem poolPay_any(L R:List Int)(cr du a:Int)(ad adR:Option Addr)(cap cR n:Nat)(w:World)(hr:Reads w 1 (.slice ad n cap) n (L.flatMap i64c))(hN:L.length=n)(hl:n≤1000)(hR:Reads w 1 (.slice adR n cR) n (R.flatMap i64c))(hRn:R.length=n):
  Calls Tryz.prog 123 #[.agg #[.slice ad n cap,.int .i64 cr,.int .i64 du],.slice adR n cR,.int .i64 a] w (GivesP (payR ⟨L,cr,du⟩ R a).1 (payR ⟨L,cr,du⟩ R a).2 w):=by
 obtain⟨z,hz⟩:∃z,askE ⟨L,cr,du⟩ [] a=z:=⟨_,rfl⟩
 have hask:=fun(W:World) (hW:Keeps (fun _=>False) w W)=>poolAsked_any L cr du a [] ad none cap 0 n 0 W (hr.keeps hW (by simp)) hN hl (Reads.nil W 1) rfl (by decide)
 rw [hz] at hask
 unfold payR
 rw [hz]
 by_cases h0:z=0
 ·subst h0
  rw [if_pos rfl]
  obtain⟨hright,_,hmon⟩:=askE_zero hz
  obtain⟨hbal,hcr,hdu,hn1,hn8⟩:=Cz hright
  simp only at hbal hcr hdu hn1 hn8
  rw [hN] at hn1 hn8
  have ham:=(Bg a).1 hmon
  have hall:L.all moneyP=true:=List.all_eq_true.2 fun x hx=>(Bg x).2 (hbal x hx)
  have hpay:=fun W (hW:Keeps (fun _=>False) w W)=>fallPay_any L R cr du a ad adR cap cR n W (hr.keeps hW (by simp)) hN (hR.keeps hW (by simp)) hRn hall ((Bg cr).2 hcr) ((Bg du).2 hdu) hmon hn1 hn8
  have hpb:=payL_bd (R:=R) hbal hdu ham (by omega)
  obtain⟨q,hq⟩:∃q,payP ⟨L,cr,du⟩ R a=q:=⟨_,rfl⟩
  rw [hq]
  unfold payP at hq
  simp only at hq
  obtain⟨⟨p,m,rest⟩,hp⟩:∃p,payL L R du a=p:=⟨_,rfl⟩
  rw [hp] at hpay hpb hq
  simp only at hpay hpb hq
  obtain⟨hpe,⟨m0,m1⟩,⟨t0,t1⟩,hpl⟩:=hpb
  rw [hN] at hpl
  obtain⟨cr0,cr1⟩:=hcr
  obtain⟨du0,du1⟩:=hdu
  have hown:=fun W (hW:Keeps (fun _=>False) w W)=>poolOwn_any L cr du (.slice ad n cap) n W (hr.keeps hW (by simp)) hl
  obtain⟨G,hG⟩:∃G:Ps×Int,(if q.rightB=true then(q,0) else(ps0,5))=G:=⟨_,rfl⟩
  rw [hG]
  have hbx:∀W,Keeps (fun _=>False) (w.alloc (.cells #[.slice ad n cap,.int .i64 cr,.int .i64 du] 34)) W→W.heap[w.heap.size]?=some (.cells #[.slice ad n cap,.int .i64 cr,.int .i64 du] 34 (0,0)):=fun W hW=>Ad (heap_alloc_new w _) hW (by simp)
  obtain⟨Hr,HR,Hask,Hown,Hz,Hright,Hmon,Hbal,Ham⟩:=hid9 hr hR hask hown hz hright hmon hbal ham;clear ham hbal hmon hright hz hown hask hR hr;obtain⟨Hall,Hpay,Hq,Hp,Hpe,Hpl,HG,Hbx,HN⟩:=hid9 hall hpay hq hp hpe hpl hG hbx hN;clear hN hbx hG hpl hpe hp hq hpay hall;have HRn:=Lib.hid hRn;clear hRn
  go_enter Tryz.func123,Tryz.ntmps123
  go_wp2_with fail
  refine(Hask.out _ (by(repeat (first|exact Keeps.refl _ _|exact Keeps.alloc _ _|exact Keeps.drew _|exact Keeps.drewN _ _|refine Keeps.Ap ?_|refine Keeps.Al ?_|refine Keeps.Ae ?_)))).mono ?_
  rintro e w1 ⟨rfl,hk1⟩
  have hkw:Keeps (fun _=>False) w w1:=(by(repeat (first|exact Keeps.refl _ _|exact Keeps.alloc _ _|exact Keeps.drew _|exact Keeps.drewN _ _|refine Keeps.Ap ?_|refine Keeps.Al ?_|refine Keeps.Ae ?_)):Keeps (fun _=>False) w ((w.alloc (.cells #[.slice ad n cap,.int .i64 cr,.int .i64 du] 34)).alloc (.cells #[.slice none 0 0,.int .i64 0,.int .i64 0] 34))).nt hk1
  have hb1:=Hbx.out w1 ((Keeps.alloc _ _).nt hk1)
  have hrs:w1.heap[w.heap.size+1]?=some (.cells #[.slice none 0 0,.int .i64 0,.int .i64 0] 34 (0,0)):=Ad (Ay _ _ (by simp)) hk1 (by simp)
  have b0:=Aa hb1 0
  have b1:=Aa hb1 1
  have b2:=Aa hb1 2
  have bl:=lt_of_block hb1
  obtain⟨Hk1,Hkw,Hb1,Hrs⟩:=hid4 hk1 hkw hb1 hrs;clear hrs hb1 hkw hk1
  go_wp2_with fail
  refine(Hpay.out _ Hkw.out).mono ?_
  rintro e w2 ⟨g1,rfl,hrow2,hk2,hg1⟩
  clear b0 b1 b2 bl
  have hk2w:=Hkw.out.nt hk2
  have hb2:=Ad Hb1.out hk2 (by simp)
  have hrs2:=Ad Hrs.out hk2 (by simp)
  have b0:=Aa hb2 0
  have b1:=Aa hb2 1
  have b2:=Aa hb2 2
  have bl:=lt_of_block hb2
  obtain⟨Hrow2,Hk2,Hg1,Hk2w,Hb2,Hrs2⟩:=hid6 hrow2 hk2 hg1 hk2w hb2 hrs2;clear hrs2 hb2 hk2w hg1 hk2 hrow2
  go_wp2_with fail
  refine(Hown.out _ Hk2w.out).mono ?_
  rintro e w3 ⟨v3,rfl,hrow3,hk3,hnew3⟩
  obtain⟨g,c,rfl⟩:=Df hrow3 hn1
  have hgn:w2.heap.size≤g:=hnew3 g rfl
  clear b0 b1 b2 bl
  have hb3:=Ad Hb2.out hk3 (by simp)
  have hrs3:=Ad Hrs2.out hk3 (by simp)
  have hgB:g≠w.heap.size:=by have:=lt_of_block Hb2.out;omega
  have hgR:g≠w.heap.size+1:=by have:=lt_of_block Hrs2.out;omega
  have hg1g:¬g1=g:=by have:=Hrow2.out.lt;omega
  have hg1B:¬g1=w.heap.size:=by have:=lt_of_block Hb1.out;have:=Hg1.out;omega
  obtain⟨hb4,k4⟩:=store3 hb3 (.slice (some ⟨g,0,none⟩) n c) (.int .i64 cr) (.int .i64 du)
  have hS:∃W4,W4=(((w3.setCell ⟨w.heap.size,0,none⟩ (.slice (some ⟨g,0,none⟩) n c)).setCell ⟨w.heap.size,1,none⟩ (.int .i64 cr)).setCell ⟨w.heap.size,2,none⟩ (.int .i64 du)):=⟨_,rfl⟩
  obtain⟨W4,hW4⟩:=hS
  rw [←hW4] at hb4 k4
  have hrow4:RowZ W4 2 g n c L:=⟨k4.row hrow3 (fun g' hg e=>by simp only [Value.ownBlock,Option.some.injEq] at hg;subst hg;exact hgB e),HN.out⟩
  have hrp4:RowZ W4 2 g1 n n p:=⟨k4.row (Hrow2.out.keep hk3).1 (fun g' hg e=>by simp only [Value.ownBlock,Option.some.injEq] at hg;subst hg;exact hg1B e),Hrow2.out.2⟩
  have hrs4:=Ad hrs3 k4 (by simp)
  have hkk4:Keeps (fun _=>False) w W4:=(Hk2w.out.nt hk3).trans (k4.mono fun i _ e=> .inr (by have e':i=w.heap.size:=e;omega))
  have c0:=Aa hb3 0
  have c1:=Aa hb3 1
  have c2:=Aa hb3 2
  have f0:=Ab hb3 0
  have f1:=Ab hb3 1
  have f2:=Ab hb3 2
  have bl3:=lt_of_block hb3
  have hgw:w.heap.size≤g:=by have:=Hk2w.out.size;omega
  obtain⟨Hrow3,Hk3,Hnew3,Hgn,Hb3,Hrs3,HgB,HgR,Hg1g⟩:=hid9 hrow3 hk3 hnew3 hgn hb3 hrs3 hgB hgR hg1g;clear hg1g hgR hgB hrs3 hb3 hgn hnew3 hk3 hrow3;obtain⟨Hg1B,Hb4,K4,Hrow4,Hrp4,Hrs4,Hkk4,Hgw⟩:=hid8 hg1B hb4 k4 hrow4 hrp4 hrs4 hkk4 hgw;clear hgw hkk4 hrs4 hrp4 hrow4 k4 hb4 hg1B
  go_wp2
  rw [←hW4]
  have HW4:=Lib.hid hW4
  clear hW4 c0 c1 c2 f0 f1 f2 bl3
  go_loopw [39] (fun x wx=>∃i:Nat,x= .int .i64 (i:Nat)∧i≤n∧RowZ wx 2 g n c (stepL (fun x y=>x-y) L p i)∧Keeps (fun k=>k=g) W4 wx) (fun x _=>n-(intOf x).toNat)
  case atStart=>exact⟨0,rfl,Nat.zero_le _,by rw [stepL_zero];exact Hrow4.out,Keeps.refl _ _⟩
  case round=>
   obtain⟨i,rfl,hin,hrow,hk⟩:=hrel
   obtain⟨wq,hwq⟩:∃x,x=wr:=⟨_,rfl⟩
   subst hwq
   have hrp:RowZ wq 2 g1 n n p:=⟨hk.row Hrp4.out.1 (fun g' hg e=>by simp only [Value.ownBlock,Option.some.injEq] at hg;subst hg;exact Hg1g.out e),Hrp4.out.2⟩
   have hbq:=Ad Hb4.out hk (fun e=>HgB.out e.symm)
   have b0:=Aa hbq 0
   have b1:=Aa hbq 1
   have b2:=Aa hbq 2
   have f1:=Ab hbq 1
   have f2:=Ab hbq 2
   have bl:=lt_of_block hbq
   by_cases hlt:i<n
   ·have hltI:(i:Int)<(n:Int):=by omega
    obtain⟨x,hx⟩:=Av (L:=L) (k:=i) (by rw [HN.out];exact hlt)
    obtain⟨y,hy⟩:=Av (L:=p) (k:=i) (by rw [Hpl.out];exact hlt)
    obtain⟨x0,x1⟩:=Hbal.out x (List.mem_of_getElem? hx)
    obtain⟨y0,y1⟩:=Hpe.out i y hy
    have ex:=stepL_get (f:=fun x y=>x-y) (P:=p) (by rw [Hpl.out,HN.out]) hx
    have cx:=hrow.cell ex
    have fx:=hrow.free i
    have cy:=hrp.cell hy
    have lx:=hrow.lt
    have ly:=hrp.lt
    have hst:=stepL_set (f:=fun x y=>x-y) (P:=p) (by rw [Hpl.out,HN.out]) hx hy
    have hnew:=hrow.set hlt (x-y)
    rw [hst] at hnew
    have hkn:Keeps (fun k=>k=g) W4 (wq.setCell ⟨g,i,none⟩ (.int .i64 (x-y))):=hk.trans (Keeps.setCell _ _ _ (.inl rfl))
    obtain⟨Hrow,Hk,Hrp,Hx,Hy,Ex,Hst,Hnew,Hkn⟩:=hid9 hrow hk hrp hx hy ex hst hnew hkn;clear hkn hnew hst ex hy hx hrp hk hrow;have Hbq:=Lib.hid hbq;clear hbq
    exact jZ114
   ·obtain rfl:i=n:=by omega
    rw [stepL_full (by rw [Hpl.out,HN.out]) HN.out] at hrow
    have hrs5:=Ad Hrs4.out hk (fun e=>HgR.out e.symm)
    have hkk5:Keeps (fun _=>False) w wq:=Hkk4.out.trans (hk.mono fun k _ e=> .inr (by subst e;exact Hgw.out))
    obtain⟨L2,hL2⟩:∃x,List.zipWith (fun x y=>x-y) L p=x:=⟨_,rfl⟩
    have hq:=Hq.out
    clear Hq
    rw [hL2] at hq hrow
    subst hq
    have hb6:((wq.setCell ⟨w.heap.size,2,none⟩ (.int .i64 (du-m))).setCell ⟨w.heap.size,1,none⟩ (.int .i64 (cr+rest))).heap[w.heap.size]?=some (.cells #[.slice (some ⟨g,0,none⟩) i c,.int .i64 (cr+rest),.int .i64 (du-m)] 34 (0,0)):=(heap_setCell_same _ _ 1 _ _ _ ((heap_setCell_same _ _ 2 _ _ _ hbq).trans rfl)).trans rfl
    have k6:Keeps (fun i=>i=w.heap.size) wq ((wq.setCell ⟨w.heap.size,2,none⟩ (.int .i64 (du-m))).setCell ⟨w.heap.size,1,none⟩ (.int .i64 (cr+rest))):=(Keeps.setCell (S:=fun i=>i=w.heap.size) _ _ _ rfl).trans (Keeps.setCell _ _ _ (.inl rfl))
    have hrow6:RowZ ((wq.setCell ⟨w.heap.size,2,none⟩ (.int .i64 (du-m))).setCell ⟨w.heap.size,1,none⟩ (.int .i64 (cr+rest))) 2 g i c L2:=⟨k6.row hrow.1 (fun g' hg e=>by simp only [Value.ownBlock,Option.some.injEq] at hg;subst hg;exact HgB.out e),hrow.2⟩
    have hrs6:=Ad hrs5 k6 (by simp)
    have hkk6:=hkk5.trans (k6.mono fun k _ e=> .inr (by have e':k=w.heap.size:=e;omega))
    have hjud:=poolJudged_any L2 (cr+rest) (du-m) (some ⟨g,0,none⟩) c i _ hrow6.reads hrow6.2 hl
    rcases hrt:Ps.rightB ⟨L2,cr+rest,du-m⟩ with _|_
    ·skip
     rw [hrt,if_neg (by decide),if_neg (by decide)] at hjud
     have hG:=HG.out
     clear HG
     rw [hrt,if_neg (by decide)] at hG
     subst hG
     obtain⟨HL2,Hrow,Hk,Hrp,Hb6,K6,Hrow6,Hrs5,Hrs6⟩:=hid9 hL2 hrow hk hrp hb6 k6 hrow6 hrs5 hrs6;clear hrs6 hrs5 hrow6 k6 hb6 hrp hk hrow hL2;obtain⟨Hkk5,Hkk6,Hjud,Hrt,Hbq⟩:=hid5 hkk5 hkk6 hjud hrt hbq;clear hbq hrt hjud hkk6 hkk5
     go_wp2_with fail
     refine Hjud.out.mono ?_
     rintro e w8 ⟨rfl,hk8⟩
     clear b0 b1 b2 f1 f2 bl
     have hrs8:=Ad Hrs6.out hk8 (by simp)
     have hS3:=store3 hrs8 (.slice none 0 0) (.int .i64 (0)) (.int .i64 (0))
     obtain⟨hb9,k9⟩:=hS3
     have r0:=Aa hrs8 0
     have r1:=Aa hrs8 1
     have r2:=Aa hrs8 2
     have rf0:=Ab hrs8 0
     have rf1:=Ab hrs8 1
     have rf2:=Ab hrs8 2
     have rl:=lt_of_block hrs8
     have sr0:=Aa hb9 0
     have sr1:=Aa hb9 1
     have sr2:=Aa hb9 2
     obtain⟨Hrs8,Hb9,K9,Sr0,Sr1,Sr2⟩:=hid6 hrs8 hb9 k9 sr0 sr1 sr2;clear sr2 sr1 sr0 k9 hb9 hrs8
     have Hk8:=Lib.hid hk8;clear hk8
     go_wp2
     have R0':=Sr0.out
     have R1':=Sr1.out
     have R2':=Sr2.out
     clear r0 r1 r2
     exact bodyPost_ret (v:= .tuple #[.agg #[.slice none 0 0,.int .i64 (0),.int .i64 (0)],.int .i64 5]) (by simp [results,Tryz.results123,go_sem,R0',R1',R2']) rfl ⟨_,rfl,⟨by simp [ps0],.inl ⟨rfl,rfl⟩⟩,(Hkk6.out.nt Hk8.out).trans (K9.out.mono fun i _ e=> .inr (by have e':i=w.heap.size+1:=e;omega)),fun g hg=>by simp [Value.ownBlock] at hg⟩
    ·skip
     rw [hrt,if_pos rfl,if_pos rfl] at hjud
     have hG:=HG.out
     clear HG
     rw [hrt,if_pos rfl] at hG
     subst hG
     obtain⟨HL2,Hrow,Hk,Hrp,Hb6,K6,Hrow6,Hrs5,Hrs6⟩:=hid9 hL2 hrow hk hrp hb6 k6 hrow6 hrs5 hrs6;clear hrs6 hrs5 hrow6 k6 hb6 hrp hk hrow hL2;obtain⟨Hkk5,Hkk6,Hjud,Hrt,Hbq⟩:=hid5 hkk5 hkk6 hjud hrt hbq;clear hbq hrt hjud hkk6 hkk5
     go_wp2_with fail
     refine Hjud.out.mono ?_
     rintro e w8 ⟨rfl,hk8⟩
     clear b0 b1 b2 f1 f2 bl
     have hrs8:=Ad Hrs6.out hk8 (by simp)
     have hS3:=store3 hrs8 (.slice (some ⟨g,0,none⟩) i c) (.int .i64 (cr+rest)) (.int .i64 (du-m))
     obtain⟨hb9,k9⟩:=hS3
     have r0:=Aa hrs8 0
     have r1:=Aa hrs8 1
     have r2:=Aa hrs8 2
     have rf0:=Ab hrs8 0
     have rf1:=Ab hrs8 1
     have rf2:=Ab hrs8 2
     have rl:=lt_of_block hrs8
     have sr0:=Aa hb9 0
     have sr1:=Aa hb9 1
     have sr2:=Aa hb9 2
     obtain⟨Hrs8,Hb9,K9,Sr0,Sr1,Sr2⟩:=hid6 hrs8 hb9 k9 sr0 sr1 sr2;clear sr2 sr1 sr0 k9 hb9 hrs8
     have Hk8:=Lib.hid hk8;clear hk8
     go_wp2
     have R0':=Sr0.out
     have R1':=Sr1.out
     have R2':=Sr2.out
     clear r0 r1 r2
     have hrow7:=K9.out.row (Hrow6.out.1.of_keeps Hk8.out) (fun g' hg e=>by simp only [Value.ownBlock,Option.some.injEq] at hg;subst hg;exact HgR.out e)
     have hlen2:=Hrow6.out.2
     exact bodyPost_ret (v:= .tuple #[.agg #[.slice (some ⟨g,0,none⟩) i c,.int .i64 (cr+rest),.int .i64 (du-m)],.int .i64 0]) (by simp [results,Tryz.results123,go_sem,R0',R1',R2']) rfl ⟨_,rfl,(by rw [hlen2];exact hrow7),(Hkk6.out.nt Hk8.out).trans (K9.out.mono fun i _ e=> .inr (by have e':i=w.heap.size+1:=e;omega)),fun g' hg=>by simp only [Value.ownBlock,Option.some.injEq] at hg;subst hg;exact Hgw.out⟩
 ·rw [if_neg h0]
  obtain⟨Hr,Hask,Hz⟩:=hid3 hr hask hz;clear hz hask hr
  go_enter Tryz.func123,Tryz.ntmps123
  go_wp2_with fail
  refine(Hask.out _ (by(repeat (first|exact Keeps.refl _ _|exact Keeps.alloc _ _|exact Keeps.drew _|exact Keeps.drewN _ _|refine Keeps.Ap ?_|refine Keeps.Al ?_|refine Keeps.Ae ?_)))).mono ?_
  rintro e w1 ⟨rfl,hk1⟩
  have hkw:Keeps (fun _=>False) w w1:=(by(repeat (first|exact Keeps.refl _ _|exact Keeps.alloc _ _|exact Keeps.drew _|exact Keeps.drewN _ _|refine Keeps.Ap ?_|refine Keeps.Al ?_|refine Keeps.Ae ?_)):Keeps (fun _=>False) w ((w.alloc (.cells #[.slice ad n cap,.int .i64 cr,.int .i64 du] 34)).alloc (.cells #[.slice none 0 0,.int .i64 0,.int .i64 0] 34))).nt hk1
  have hrs:w1.heap[w.heap.size+1]?=some (.cells #[.slice none 0 0,.int .i64 0,.int .i64 0] 34 (0,0)):=Ad (Ay _ _ (by simp)) hk1 (by simp)
  have hS3:=store3 hrs (.slice none 0 0) (.int .i64 0) (.int .i64 0)
  obtain⟨hb9,k9⟩:=hS3
  have r0:=Aa hrs 0
  have r1:=Aa hrs 1
  have r2:=Aa hrs 2
  have rf0:=Ab hrs 0
  have rf1:=Ab hrs 1
  have rf2:=Ab hrs 2
  have rl:=lt_of_block hrs
  have sr0:=Aa hb9 0
  have sr1:=Aa hb9 1
  have sr2:=Aa hb9 2
  obtain⟨Hrs,Hb9,K9,Sr0,Sr1,Sr2⟩:=hid6 hrs hb9 k9 sr0 sr1 sr2;clear sr2 sr1 sr0 k9 hb9 hrs
  obtain⟨Hk1,Hkw⟩:=hid2 hk1 hkw;clear hkw hk1
  go_wp2
  have R0':=Sr0.out
  have R1':=Sr1.out
  have R2':=Sr2.out
  clear r0 r1 r2
  exact bodyPost_ret (v:= .tuple #[.agg #[.slice none 0 0,.int .i64 0,.int .i64 0],.int .i64 z]) (by simp [results,Tryz.results123,go_sem,R0',R1',R2']) rfl ⟨_,rfl,⟨by simp [ps0],.inl ⟨rfl,rfl⟩⟩,Hkw.out.trans (K9.out.mono fun i _ e=> .inr (by have e':i=w.heap.size+1:=e;omega)),fun g hg=>by simp [Value.ownBlock] at hg⟩
set_option maxHeartbeats 400000
theorem poolBear1_any(v:Int)(w:World):Calls Tryz.prog 152 #[.int .i64 v] w fun e w'=>e= .returned (.bool (badM v))∧w=w':=by
 rcases m3:moneyP v with _|_
 ·have hf:badM v=true:=by simp [badM,m3]
  exact jZ73
 ·have hf:badM v=false:=by simp [badM,m3]
  exact jZ73
set_option maxHeartbeats 800000
theorem indexBear(ad:Option Addr)(cap:Nat)(L:List Int)(w:World)(hr:Reads w 1 (.slice ad L.length cap) L.length (L.flatMap i64c))(hl:L.length≤1000):
  Calls Tryz.prog 157 #[.slice ad L.length cap,.func (.func 152) #[] #[]] w fun e w'=>∃r:Int,e= .returned (.int .i64 r)∧decide (0≤r)=L.any badM∧w=w':=by
 have Hr:=Lib.hid hr;clear hr
 go_enter Tryz.func157,Tryz.ntmps157
 go_wp2_with fail
 go_loop [8] (fun c=>∃j:Nat,j≤L.length∧c= .int .i64 (j:Nat)∧(L.take j).any badM=false) (fun c=>L.length-(intOf c).toNat)
 case atStart=>exact⟨0,Nat.zero_le _,rfl,rfl⟩
 case round=>
  obtain⟨j,hj,rfl,hok⟩:=hrel
  by_cases hjl:j<L.length
  ·obtain⟨x,hx⟩:=Av hjl
   obtain⟨g,o,rfl,x0⟩:=Hr.out.int hx
   have hsn:=any_take_snoc (q:=badM) hx
   rw [hok] at hsn
   have hcl:=fun W=>poolBear1_any x W
   rcases m1:badM x with _|_
   ·have hok':(L.take (j+1)).any badM=false:=by rw [hsn,m1];rfl
    rw [m1] at hcl
    obtain⟨Hsn,Hx,Hok,Hok',Hcl⟩:=hid5 hsn hx hok hok' hcl;clear hcl hok' hok hx hsn
    go_wp2_with (go_at_call 152;((with_reducible refine(Hcl.out _).mono ?_);rintro e w1 ⟨rfl,rfl⟩))
    exact jZ43
   ·have hf:=any_of_get (q:=badM) hx m1
    have hj0:decide ((0:Int)≤(j:Int))=true:=by simp
    rw [m1] at hcl
    obtain⟨Hf,Hsn,Hx,Hj0,Hcl⟩:=hid5 hf hsn hx hj0 hcl;clear hcl hj0 hx hsn hf
    go_wp2_with (go_at_call 152;((with_reducible refine(Hcl.out _).mono ?_);rintro e w1 ⟨rfl,rfl⟩))
    exact jZ95
  ·exact jZ29
set_option maxHeartbeats 400000
theorem containsBear(ad:Option Addr)(cap:Nat)(L:List Int)(w:World)(hr:Reads w 1 (.slice ad L.length cap) L.length (L.flatMap i64c))(hl:L.length≤1000):
  Calls Tryz.prog 140 #[.slice ad L.length cap,.func (.func 152) #[] #[]] w fun e w'=>e= .returned (.bool (L.any badM))∧w=w':=by
 have Hr:=Lib.hid hr;clear hr
 go_enter Tryz.func140,Tryz.ntmps140
 go_wp2_with (go_at_call 157;refine(indexBear _ _ L _ Hr.out hl).mono ?_;rintro e w1 ⟨r,rfl,hd,rfl⟩;have Hd:=Lib.hid hd;clear hd)
 exact jZ88
theorem containsBear_at{L:List Int}{b:Bool}{n:Nat}(hb:L.any badM=b)(hN:L.length=n)(hl:n≤1000)(ad:Option Addr)(cap:Nat)(w:World)(hr:Reads w 1 (.slice ad n cap) n (L.flatMap i64c)):
  Calls Tryz.prog 140 #[.slice ad n cap,.func (.func 152) #[] #[]] w fun e w'=>e= .returned (.bool b)∧w=w':=by
 subst hN;subst hb;exact containsBear ad cap L w hr hl
def bearS(X:List Int)(p:Ps):Nat→Ps
 |0=>p
 |i+1=>chargeP (bearS X p i) ((i:Int)+1) (X.getD i 0)
theorem bearS_du(X:List Int)(p:Ps):∀i,(bearS X p i).du=p.du
 |0=>rfl
 |i+1=>bearS_du X p i
theorem bearS_len(X:List Int)(p:Ps):∀i,(bearS X p i).bal.length=p.bal.length
 |0=>rfl
 |i+1=>by unfold bearS chargeP;simp only [List.length_set];exact bearS_len X p i
theorem bearS_get(X:List Int)(p:Ps):∀i j,i≤j→(bearS X p i).bal[j]?=p.bal[j]?
 |0,_,_=>rfl
 |i+1,j,h=>by
  unfold bearS chargeP
  simp only
  rw [List.getElem?_set_ne (by omega)]
  exact bearS_get X p i j (by omega)
theorem bearS_cr{X:List Int}{p:Ps}(hX:∀x∈X,0≤x∧x≤1000000000000000)(hc:0≤p.cr∧p.cr≤1000000000000000):∀i,0≤(bearS X p i).cr∧(bearS X p i).cr≤1000000000000000
 |0=>hc
 |i+1=>by
  have ih:=bearS_cr hX hc i
  unfold bearS chargeP
  simp only
  have hx:0≤X.getD i 0:=by
   rw [List.getD_eq_getElem?_getD]
   rcases h:X[i]? with _|x
   ·simp
   ·exact(hX x (List.mem_of_getElem? h)).1
  unfold minI
  split<;>omega
def bearR(p:Ps)(X:List Int):Ps×Int:=if p.rightB=true∧X.length=p.bal.length∧X.all moneyP=true then(if(bearS X p X.length).rightB=true then(bearS X p X.length,0) else(ps0,5)) else(ps0,1)
set_option maxHeartbeats 3200000
theorem poolBear_any(L X:List Int)(cr du:Int)(ad adX:Option Addr)(cap cX n m:Nat)(w:World)(hr:Reads w 1 (.slice ad n cap) n (L.flatMap i64c))(hN:L.length=n)(hl:n≤1000)(hX:Reads w 1 (.slice adX m cX) m (X.flatMap i64c))(hM:X.length=m)(hm:m≤1000):
  Calls Tryz.prog 128 #[.agg #[.slice ad n cap,.int .i64 cr,.int .i64 du],.slice adX m cX] w (GivesP (bearR ⟨L,cr,du⟩ X).1 (bearR ⟨L,cr,du⟩ X).2 w):=by
 have hri:=fun W (hW:Keeps (fun _=>False) w W)=>poolRight_go L cr du ad cap n W (hr.keeps hW (by simp)) hN hl
 have hbx:∀W,Keeps (fun _=>False) (w.alloc (.cells #[.slice ad n cap,.int .i64 cr,.int .i64 du] 34)) W→W.heap[w.heap.size]?=some (.cells #[.slice ad n cap,.int .i64 cr,.int .i64 du] 34 (0,0)):=fun W hW=>Ad (heap_alloc_new w _) hW (by simp)
 have hco:=fun W (hW:Keeps (fun _=>False) w W)=>containsBear_at (L:=X) (b:=X.any badM) rfl hM hm adX cX W (hX.keeps hW (by simp))
 have he:X.any badM= !(X.all moneyP):=by rw [List.all_eq_not_any_not];simp only [Bool.not_not];rfl
 rw [he] at hco
 unfold bearR
 rcases hb:Ps.rightB ⟨L,cr,du⟩ with _|_
 ·rw [hb] at hri
  rw [if_neg (by simp)]
  exact jZ99
 ·rw [hb] at hri
  by_cases hlen:m=n
  ·obtain rfl:n=m:=hlen.symm
   rcases hal:X.all moneyP with _|_
   ·rw [hal] at hco
    rw [if_neg (by simp)]
    simp only [Bool.not_false] at hco
    obtain⟨Hr,HX,Hri,Hco,Hb,Hbx,He,HN,HM⟩:=hid9 hr hX hri hco hb hbx he hN hM;clear hM hN he hbx hb hco hri hX hr;have Hal:=Lib.hid hal;clear hal
    exact jZ4
   ·rw [hal] at hco
    simp only [Bool.not_true] at hco
    rw [if_pos ⟨rfl,by rw [hM,hN],rfl⟩]
    obtain⟨q,hq⟩:∃q,bearS X ⟨L,cr,du⟩ X.length=q:=⟨_,rfl⟩
    rw [hq]
    rw [hM] at hq
    obtain⟨G,hG⟩:∃G:Ps×Int,(if q.rightB=true then(q,0) else(ps0,5))=G:=⟨_,rfl⟩
    rw [hG]
    obtain⟨hbal,hcr,hdu,hn1,hn8⟩:=Cz hb
    simp only at hbal hcr hdu hn1 hn8
    rw [hN] at hn1 hn8
    have hXb:∀x∈X,0≤x∧x≤1000000000000000:=fun x hx=>(Bg x).1 (List.all_eq_true.1 hal x hx)
    have hown:=fun W (hW:Keeps (fun _=>False) w W)=>poolOwn_any L cr du (.slice ad n cap) n W (hr.keeps hW (by simp)) hl
    obtain⟨Hr,HX,Hri,Hco,Hb,Hbx,He,HN,HM⟩:=hid9 hr hX hri hco hb hbx he hN hM;clear hM hN he hbx hb hco hri hX hr;obtain⟨Hal,Hq,HG,Hbal,Hcr,Hdu,HXb,Hown⟩:=hid8 hal hq hG hbal hcr hdu hXb hown;clear hown hXb hdu hcr hbal hG hq hal
    go_enter Tryz.func128,Tryz.ntmps128
    go_wp2_with fail
    refine(Hri.out _ (by(repeat (first|exact Keeps.refl _ _|exact Keeps.alloc _ _|exact Keeps.drew _|exact Keeps.drewN _ _|refine Keeps.Ap ?_|refine Keeps.Al ?_|refine Keeps.Ae ?_)))).mono ?_
    rintro e w1 ⟨rfl,hk1⟩
    have hkw:Keeps (fun _=>False) w w1:=(by(repeat (first|exact Keeps.refl _ _|exact Keeps.alloc _ _|exact Keeps.drew _|exact Keeps.drewN _ _|refine Keeps.Ap ?_|refine Keeps.Al ?_|refine Keeps.Ae ?_)):Keeps (fun _=>False) w ((w.alloc (.cells #[.slice ad n cap,.int .i64 cr,.int .i64 du] 34)).alloc (.cells #[.slice none 0 0,.int .i64 0,.int .i64 0] 34))).nt hk1
    have hb1:=Hbx.out w1 ((Keeps.alloc _ _).nt hk1)
    have hrs:w1.heap[w.heap.size+1]?=some (.cells #[.slice none 0 0,.int .i64 0,.int .i64 0] 34 (0,0)):=Ad (Ay _ _ (by simp)) hk1 (by simp)
    have b0:=Aa hb1 0
    have b1:=Aa hb1 1
    have b2:=Aa hb1 2
    have bl:=lt_of_block hb1
    obtain⟨Hk1,Hkw,Hb1,Hrs⟩:=hid4 hk1 hkw hb1 hrs;clear hrs hb1 hkw hk1
    go_wp2_with (go_at_call 140;(with_reducible refine(Hco.out _ Hkw.out).mono ?_);rintro e w2 ⟨rfl,rfl⟩)
    refine(Hown.out _ Hkw.out).mono ?_
    rintro e w3 ⟨v3,rfl,hrow3,hk3,hnew3⟩
    obtain⟨g,c,rfl⟩:=Df hrow3 hn1
    have hgn:w1.heap.size≤g:=hnew3 g rfl
    clear b0 b1 b2 bl
    have hb3:=Ad Hb1.out hk3 (by simp)
    have hrs3:=Ad Hrs.out hk3 (by simp)
    have hgB:g≠w.heap.size:=by have:=lt_of_block Hb1.out;omega
    have hgR:g≠w.heap.size+1:=by have:=lt_of_block Hrs.out;omega
    obtain⟨hb4,k4⟩:=store3 hb3 (.slice (some ⟨g,0,none⟩) n c) (.int .i64 cr) (.int .i64 du)
    have hS:∃W4,W4=(((w3.setCell ⟨w.heap.size,0,none⟩ (.slice (some ⟨g,0,none⟩) n c)).setCell ⟨w.heap.size,1,none⟩ (.int .i64 cr)).setCell ⟨w.heap.size,2,none⟩ (.int .i64 du)):=⟨_,rfl⟩
    obtain⟨W4,hW4⟩:=hS
    rw [←hW4] at hb4 k4
    have hrow4:RowZ W4 2 g n c L:=⟨k4.row hrow3 (fun g' hg e=>by simp only [Value.ownBlock,Option.some.injEq] at hg;subst hg;exact hgB e),HN.out⟩
    have hrs4:=Ad hrs3 k4 (by simp)
    have hkk4:Keeps (fun _=>False) w W4:=(Hkw.out.nt hk3).trans (k4.mono fun i _ e=> .inr (by have e':i=w.heap.size:=e;omega))
    have c0:=Aa hb3 0
    have c1:=Aa hb3 1
    have c2:=Aa hb3 2
    have f0:=Ab hb3 0
    have f1:=Ab hb3 1
    have f2:=Ab hb3 2
    have bl3:=lt_of_block hb3
    have hgw:w.heap.size≤g:=by have:=Hkw.out.size;omega
    obtain⟨Hrow3,Hk3,Hnew3,Hgn,Hb3,Hrs3,HgB,HgR,Hb4⟩:=hid9 hrow3 hk3 hnew3 hgn hb3 hrs3 hgB hgR hb4;clear hb4 hgR hgB hrs3 hb3 hgn hnew3 hk3 hrow3;obtain⟨K4,Hrow4,Hrs4,Hkk4,Hgw⟩:=hid5 k4 hrow4 hrs4 hkk4 hgw;clear hgw hkk4 hrs4 hrow4 k4
    go_wp2
    rw [←hW4]
    have HW4:=Lib.hid hW4
    clear hW4 c0 c1 c2 f0 f1 f2 bl3
    go_loopw [28] (fun x wx=>∃i:Nat,x= .int .i64 (i:Nat)∧i≤n∧wx.heap[w.heap.size]?=some (.cells #[.slice (some ⟨g,0,none⟩) n c,.int .i64 (bearS X ⟨L,cr,du⟩ i).cr,.int .i64 du] 34 (0,0))∧RowZ wx 2 g n c (bearS X ⟨L,cr,du⟩ i).bal∧Keeps (fun k=>k=w.heap.size∨k=g) W4 wx) (fun x _=>n-(intOf x).toNat)
    case atStart=>exact⟨0,rfl,Nat.zero_le _,Hb4.out,Hrow4.out,Keeps.refl _ _⟩
    case round=>
     obtain⟨i,rfl,hin,hbq,hrow,hk⟩:=hrel
     obtain⟨wq,hwq⟩:∃x,x=wr:=⟨_,rfl⟩
     subst hwq
     have hkq:Keeps (fun _=>False) w wq:=Hkk4.out.trans (hk.mono fun k _ e=> .inr (by have:=Hgw.out;rcases e with e|e<;>omega))
     by_cases hlt:i<n
     ·have hltI:(i:Int)<(n:Int):=by omega
      obtain⟨x,hx⟩:=Av (L:=X) (k:=i) (by rw [HM.out];exact hlt)
      obtain⟨x0,x1⟩:=HXb.out x (List.mem_of_getElem? hx)
      have hxD:X.getD i 0=x:=by rw [List.getD_eq_getElem?_getD,hx];rfl
      obtain⟨gx,ox,he,cx⟩:=(HX.out.keeps hkq (by simp)).int (k:= .i64) hx
      subst he
      have lx:=Ag cx
      have hst:bearS X ⟨L,cr,du⟩ (i+1)=chargeP (bearS X ⟨L,cr,du⟩ i) ((i:Int)+1) x:=by rw [←hxD];rfl
      have hc0:=poolCharge0_any w.heap.size g c (bearS X ⟨L,cr,du⟩ i).bal (bearS X ⟨L,cr,du⟩ i).cr du ((i:Int)+1) x n wq hbq hrow (fun y hy=>by
       rw [show((i:Int)+1-1).toNat=i by omega,bearS_get X ⟨L,cr,du⟩ i i (Nat.le_refl _)] at hy
       exact Hbal.out y (List.mem_of_getElem? hy)) (bearS_cr HXb.out Hcr.out i) ⟨x0,x1⟩ ⟨by omega,by omega⟩ hl
      obtain⟨Hbq,Hrow,Hk,Hkq,Hx,HxD,Hst,Hc0⟩:=hid8 hbq hrow hk hkq hx hxD hst hc0;clear hc0 hst hxD hx hkq hk hrow hbq
      go_wp2_with (go_at_call 144;(with_reducible refine Hc0.out.mono ?_);rintro e w5 ⟨rfl,hb5,hrow5,hk5⟩;have Hb5:=Lib.hid hb5;have Hrow5:=Lib.hid hrow5;have Hk5:=Lib.hid hk5;clear hb5 hrow5 hk5)
      go_roundw
      case rel=>exact⟨i+1,by go_num,by omega,by rw [Hst.out];exact Hb5.out,by rw [Hst.out];exact Hrow5.out,Hk.out.te Hk5.out (fun _ e=>e)⟩
      case measure=>simp [intOf];omega
     ·obtain rfl:i=n:=by omega
      have hdu2:=bearS_du X ⟨L,cr,du⟩ i
      rw [Hq.out] at hrow hbq hdu2
      obtain⟨L2,c2,d2⟩:=q
      simp only at hrow hbq hdu2
      have hdu3:=hdu2.symm
      clear hdu2
      subst hdu3
      have hrs5:=Ad Hrs4.out hk (by have:=HgR.out;simp;omega)
      have hjud:=poolJudged_any L2 c2 du (some ⟨g,0,none⟩) c i wq hrow.reads hrow.2 hl
      have b0:=Aa hbq 0
      have b1:=Aa hbq 1
      have b2:=Aa hbq 2
      have bl:=lt_of_block hbq
      rcases hrt:Ps.rightB ⟨L2,c2,du⟩ with _|_
      ·skip
       rw [hrt,if_neg (by decide),if_neg (by decide)] at hjud
       have hG:=HG.out
       clear HG
       rw [hrt,if_neg (by decide)] at hG
       subst hG
       obtain⟨Hrow,Hk,Hkq,Hjud,Hrt,Hbq,Hrs5⟩:=hid7 hrow hk hkq hjud hrt hbq hrs5;clear hrs5 hbq hrt hjud hkq hk hrow
       go_wp2_with fail
       refine Hjud.out.mono ?_
       rintro e w8 ⟨rfl,hk8⟩
       clear b0 b1 b2 bl
       have hrs8:=Ad Hrs5.out hk8 (by simp)
       have hS3:=store3 hrs8 (.slice none 0 0) (.int .i64 (0)) (.int .i64 (0))
       obtain⟨hb9,k9⟩:=hS3
       have r0:=Aa hrs8 0
       have r1:=Aa hrs8 1
       have r2:=Aa hrs8 2
       have rf0:=Ab hrs8 0
       have rf1:=Ab hrs8 1
       have rf2:=Ab hrs8 2
       have rl:=lt_of_block hrs8
       have sr0:=Aa hb9 0
       have sr1:=Aa hb9 1
       have sr2:=Aa hb9 2
       obtain⟨Hrs8,Hb9,K9,Sr0,Sr1,Sr2⟩:=hid6 hrs8 hb9 k9 sr0 sr1 sr2;clear sr2 sr1 sr0 k9 hb9 hrs8
       have Hk8:=Lib.hid hk8;clear hk8
       go_wp2
       have R0':=Sr0.out
       have R1':=Sr1.out
       have R2':=Sr2.out
       clear r0 r1 r2
       exact bodyPost_ret (v:= .tuple #[.agg #[.slice none 0 0,.int .i64 (0),.int .i64 (0)],.int .i64 5]) (by simp [results,Tryz.results128,go_sem,R0',R1',R2']) rfl ⟨_,rfl,⟨by simp [ps0],.inl ⟨rfl,rfl⟩⟩,(Hkq.out.nt Hk8.out).trans (K9.out.mono fun i _ e=> .inr (by have e':i=w.heap.size+1:=e;omega)),fun g hg=>by simp [Value.ownBlock] at hg⟩
      ·skip
       rw [hrt,if_pos rfl,if_pos rfl] at hjud
       have hG:=HG.out
       clear HG
       rw [hrt,if_pos rfl] at hG
       subst hG
       obtain⟨Hrow,Hk,Hkq,Hjud,Hrt,Hbq,Hrs5⟩:=hid7 hrow hk hkq hjud hrt hbq hrs5;clear hrs5 hbq hrt hjud hkq hk hrow
       go_wp2_with fail
       refine Hjud.out.mono ?_
       rintro e w8 ⟨rfl,hk8⟩
       clear b0 b1 b2 bl
       have hrs8:=Ad Hrs5.out hk8 (by simp)
       have hS3:=store3 hrs8 (.slice (some ⟨g,0,none⟩) i c) (.int .i64 (c2)) (.int .i64 (du))
       obtain⟨hb9,k9⟩:=hS3
       have r0:=Aa hrs8 0
       have r1:=Aa hrs8 1
       have r2:=Aa hrs8 2
       have rf0:=Ab hrs8 0
       have rf1:=Ab hrs8 1
       have rf2:=Ab hrs8 2
       have rl:=lt_of_block hrs8
       have sr0:=Aa hb9 0
       have sr1:=Aa hb9 1
       have sr2:=Aa hb9 2
       obtain⟨Hrs8,Hb9,K9,Sr0,Sr1,Sr2⟩:=hid6 hrs8 hb9 k9 sr0 sr1 sr2;clear sr2 sr1 sr0 k9 hb9 hrs8
       have Hk8:=Lib.hid hk8;clear hk8
       go_wp2
       have R0':=Sr0.out
       have R1':=Sr1.out
       have R2':=Sr2.out
       clear r0 r1 r2
       have hrow7:=K9.out.row (Hrow.out.1.of_keeps Hk8.out) (fun g' hg e=>by simp only [Value.ownBlock,Option.some.injEq] at hg;subst hg;exact HgR.out e)
       have hlen2:=Hrow.out.2
       exact bodyPost_ret (v:= .tuple #[.agg #[.slice (some ⟨g,0,none⟩) i c,.int .i64 (c2),.int .i64 (du)],.int .i64 0]) (by simp [results,Tryz.results128,go_sem,R0',R1',R2']) rfl ⟨_,rfl,(by rw [hlen2];exact hrow7),(Hkq.out.nt Hk8.out).trans (K9.out.mono fun i _ e=> .inr (by have e':i=w.heap.size+1:=e;omega)),fun g' hg=>by simp only [Value.ownBlock,Option.some.injEq] at hg;subst hg;exact Hgw.out⟩
  ·rw [if_neg (by simp only [hN,hM];simp [hlen])]
   have hne:((m:Int)==(n:Int))=false:=beq_eq_false_iff_ne.2 (by omega)
   exact jZ99
def giveO(k:Int)(O:List Int):List Int:=k::O.filter (fun x=>decide (x≠k))
theorem giveO_snoc{k x:Int}{O:List Int}{i:Nat}(h:O[i]?=some x):giveO k (O.take (i+1))=if x=k then giveO k (O.take i) else giveO k (O.take i)++ [x]:=by
 unfold giveO
 rw [take_snoc' h,List.filter_append]
 by_cases e:x=k
 ·rw [if_pos e];simp [e]
 ·rw [if_neg e];simp [e]
theorem giveO_ok{n:Nat}{k:Int}{O:List Int}(h:OrdOk n O)(hk:1≤k∧k≤n):OrdOk n (giveO k O):=by
 refine⟨fun x hx=> ?_, ?_⟩
 ·rcases List.mem_cons.1 hx with rfl|hx
  ·exact hk
  ·exact h.ok x (List.mem_filter.1 hx).1
 ·unfold giveO
  rw [List.nodup_cons]
  exact⟨fun hx=>by simpa using (List.mem_filter.1 hx).2,h.nd.filter _⟩
theorem rank_ok(hi:Bool){R:List Int}{n:Nat}(h:R.length=n):OrdOk n (rankL hi R):=by
 subst h
 exact⟨fun k hk=>Dc hk,rankN_nodup hi R _⟩
def giveP(p:Ps)(R:List Int)(k a:Int):Ps:=⟨List.zipWith (fun x y=>x-y) p.bal (intoL p.bal (giveO k (rankL true R)) a).1,p.cr+(intoL p.bal (giveO k (rankL true R)) a).2,p.du⟩
def giveR(p:Ps)(R:List Int)(k a:Int):Ps×Int:=if askE p [k] a=0 then(if(giveP p R k a).rightB=true then(giveP p R k a,0) else(ps0,5)) else(ps0,askE p [k] a)
theorem haltG{p:Prop}(h:Hid p):p:=h.out
theorem owns_lit1(W:World)(x:Int):(W.alloc (.cells #[.int .i64 x] 3)).ownsRow 0 3 1 (.slice (some ⟨W.heap.size,0,none⟩) 1 1) 1 ([x].flatMap i64c):=
 ⟨rfl,.inr ⟨_,1,_,rfl,Nat.zero_le _,heap_alloc_new W _,Nat.le_refl _,by unfold maxLen;omega,rfl,rfl⟩⟩
end Go.Proofs.YthffbjldpfionaaGreat
