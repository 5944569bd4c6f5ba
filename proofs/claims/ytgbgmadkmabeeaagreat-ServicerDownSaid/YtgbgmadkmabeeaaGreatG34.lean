/- Part 34 of what the laws of this seat share: walks of functions, and plain laws. -/
import Derived.Laws.Cover3
import Derived.Test.YtgbgmadkmabeeaaGreatG7
set_option maxRecDepth 100000
set_option maxHeartbeats 3200000
namespace Go.Proofs.YtgbgmadkmabeeaaGreat
open Go.RowKit Go.IntWalk
theorem bs_self{L:List Int}(h:L.length=48):bs L=L:=by
 apply List.ext_getElem?
 intro i;exact j2s
structure PgF(n:Nat)(fl:Int)(m:Nat)(B R:List Int):Prop where
 len:R.length=48
 c4:R[4]?=some fl
 c5:R[5]?=some (m:Int)
 c47:R[47]?=some 90
 z:∀j,6+m<=j->j<47->R[j]?=some 0
 body:(R.drop 6).take m=B
 s:R.take 4=sum4 n R
 ok:∀x∈R,0<=x/\x<=255
theorem Gl(n:Nat)(b:List Int):(sum4 n b).length=4:=rfl
theorem sum4_ok(n:Nat)(b:List Int):∀x∈sum4 n b,0<=x/\x<=255:=by
 intro x hx;unfold sum4 at hx;simp only [List.mem_cons,List.not_mem_nil,or_false] at hx;rcases hx with rfl|rfl|rfl|rfl<;>omega
theorem Ab7(n:Nat)(first last:Bool)(B:List Int)(hB:∀z∈B,0<=z/\z<=255)(h2:B.length<=41):PgF n (flagI first last) B.length B (pageR n first last B):=by
 have h5:(pageL first last B).drop 4= [flagI first last,(B.length:Int)]++B++List.replicate (41-B.length) 0++ [90]:=rfl;have hR:pageR n first last B=sum4 n (pageL first last B)++(pageL first last B).drop 4:=by rw [h5];unfold pageR;simp
 have hl:(pageR n first last B).length=48:=by unfold pageR;simp [Gl];omega
 have hL:=Ze (first:=first) (last:=last) h2;have hd:(pageR n first last B).drop 4=(pageL first last B).drop 4:=by rw [hR,List.drop_left' (Gl _ _)]
 have hg:∀j,(pageR n first last B)[4+j]?=((pageL first last B).drop 4)[j]?:=λj=>by rw [hR,List.getElem?_append_right (by rw [Gl];omega),Gl];congr 1;omega
 refine⟨hl,(hg 0).trans rfl,(hg 1).trans rfl, ?_,λj h1 h3=> ?_, ?_, ?_, ?_⟩
 ·have h43:([flagI first last,(B.length:Int)]++B++List.replicate (41-B.length) 0).length=43:=by simp;omega
  rw [show 47=4+43 from rfl,hg,h5,List.getElem?_append_right j6,h43];rfl
 ·obtain⟨k,rfl⟩:∃k,j=4+k:=⟨j-4,by omega⟩;rw [hg,h5,List.getElem?_append_left ji,List.getElem?_append_right ji,List.getElem?_replicate,if_pos ji]
 ·rw [show 6=4+2 from rfl,<-List.drop_drop,hd,h5];show List.take B.length (B++List.replicate (41-B.length) 0++ [90])=B;rw [List.append_assoc,List.take_left]
 ·have hs:sumL n (pageR n first last B)=sumL n (pageL first last B):=by unfold sumL;rw [bs_self hl,bs_self hL,hd]
  have h4:sum4 n (pageR n first last B)=sum4 n (pageL first last B):=by unfold sum4;rw [hs]
  rw [h4]
  conv=>lhs;rw [hR]
  exact List.take_left' (Gl _ _)
 ·intro x hx;rw [hR] at hx;rcases List.mem_append.1 hx with h|h
  ·exact sum4_ok _ _ x h
  ·exact Ab8 h2 hB x (List.mem_of_mem_drop h)
def jrS9(b:Nat)(x0 x1 x2 x3:Value)(R:Array Value)(w:World):Prop:=((w.cell? ⟨b,0,none⟩=some x0/\b<w.heap.size)/\(w.cell? ⟨b,1,none⟩=some x1/\w.cell? ⟨b,2,none⟩=some x2)/\w.cell? ⟨b,3,none⟩=some x3)/\w.heap[b]?=some (.cells R 75 (0,0))
theorem jrS9.keep{b:Nat}{x0 x1 x2 x3:Value}{R:Array Value}{W W':World}(h:jrS9 b x0 x1 x2 x3 R W)(hk:K0 W W'):jrS9 b x0 x1 x2 x3 R W':=by
 obtain⟨⟨⟨h1,hb⟩,⟨h2,h3⟩,h4⟩,h5⟩:=h;refine j03 ?_;intro k;exact⟨⟨⟨k h1,Nat.lt_of_lt_of_le hb hk.size⟩,⟨k h2,k h3⟩,k h4⟩,Ad h5 hk (by simp)⟩
def jrS1(b:Nat)(x4 x5:Value)(w:World):Prop:=w.cell? ⟨b,4,none⟩=some x4/\w.cell? ⟨b,5,none⟩=some x5
theorem Fy{w:World}{b:Nat}{R:List Int}(h:w.heap[b]?=some (.cells (b48 R).toArray 75 (0,0)))(hl:R.length=48){j:Nat}{z:Int}(hz:R[j]?=some z):w.cell? ⟨b,j,none⟩=some (.int .u8 z):=by
 rw [Aa h,Rh hl,List.getElem?_toArray,List.getElem?_map,hz];rfl
def jrFr(n:Nat)(R:List Int)(b:Nat)(fl:Int)(m q:Nat)(u:Nat->Value):Act:={ tmps:= #[.int .i64 ((n:Nat):Int),.agg (b48 R).toArray,u 2,(.pointer (some ⟨b,0,none⟩)),.bool false,.bool false,.slice none 0 0,.int .i64 0,.int .u8 fl,.int .i64 ((m:Nat):Int),.int .i64 4,.int .i64 ((q:Nat):Int),u 12,u 13,u 14,u 15,u 16,u 17,u 18,u 19,u 20,u 21,u 22,u 23,u 24,u 25,u 26,u 27,u 28,u 29,u 30,u 31,u 32,u 33,u 34,u 35,u 36,u 37,u 38,u 39,u 40,u 41,u 42,u 43,u 44,u 45,u 46,u 47,u 48,u 49,u 50,u 51,u 52,u 53,u 54,u 55,u 56,u 57,u 58,u 59,u 60,u 61,u 62,u 63,u 64,u 65,u 66,u 67,u 68,u 69,u 70,u 71,u 72,u 73,u 74,u 75],defers:= [] }
def jrJ(n:Nat)(R:List Int)(b:Nat)(fl:Int)(m:Nat)(w:World)(a':Act)(W:World):Prop:=∃(q:Nat) (u:Nat->Value),a'=jrFr n R b fl m q u/\6+m<=q/\q<=47/\K0 w W/\W.heap[b]?=some (.cells (b48 R).toArray 75 (0,0))
theorem jrJ.mk{n:Nat}{R:List Int}{b:Nat}{fl:Int}{m:Nat}{w W:World}{a':Act}(q:Nat)(h:a'=jrFr n R b fl m q (λi=>a'.tmps.getD i undef))(h1:6+m<=q)(h2:q<=47)(h3:K0 w W)(h4:W.heap[b]?=some (.cells (b48 R).toArray 75 (0,0))):jrJ n R b fl m w a' W:=⟨q,_,h,h1,h2,h3,h4⟩
theorem u8c_map(B:List Int):B.flatMap u8c=B.map λz=> .int .u8 z:=by
 induction B with
 |nil=>rfl
 |cons z B ih=>rw [List.flatMap_cons,ih];rfl
theorem Adw{n m b:Nat}{fl:Int}{B R:List Int}{V:World}(hf:PgF n fl m B R)(hm:B.length=m)(h2:m<=41)(hV:V.heap[b]?=some (.cells (b48 R).toArray 75 (0,0))):Reads V 1 (.slice (some ⟨b,6,none⟩) m 42) m (B.flatMap u8c):=by
 rw [u8c_map];refine⟨_,_,rfl,by omega,by simp [hm],nofun,λj x hj=>⟨b,6,rfl, ?_⟩⟩;rw [List.getElem?_map] at hj;obtain⟨z,hz,rfl⟩:=Option.map_eq_some_iff.1 hj;refine Fy hV hf.len ?_;have hjm:j<m:=by rw [<-hm];exact(List.getElem?_eq_some_iff.1 hz).1
 rw [<-hf.body,List.getElem?_take_of_lt hjm,List.getElem?_drop] at hz;exact hz
theorem Qt{P:Program}(w:World)(d:Nat)(t e:TypeId)(ht:P.underlying t=some (.array 4 e))(he:P.underlying e=some (.int .u8))(hsz:∀w,(sizeOf e).run P w= .ok 1 w)(s0 s1 s2 s3:Int):
  (Op.equalIn (d+2) t (.agg #[.int .u8 s0,.int .u8 s1,.int .u8 s2,.int .u8 s3]) (.agg #[.int .u8 s0,.int .u8 s1,.int .u8 s2,.int .u8 s3])).run P w= .ok true w:=by
 rw [Op.equalIn];simp only [Sem.run_bind,run_underlying ht,Result.andThen_ok,hsz,Std.Legacy.Range.forIn_eq_forIn_range',Std.Legacy.Range.size,Nat.sub_zero,Nat.add_sub_cancel,Nat.div_one];rw [show List.range' 0 4 1= [0,1,2,3] from rfl]
 have px:∀(i:Nat) (x:Value), #[Value.int .u8 s0,.int .u8 s1,.int .u8 s2,.int .u8 s3][i]?=some x->(part e #[.int .u8 s0,.int .u8 s1,.int .u8 s2,.int .u8 s3] (i*1)).run P w= .ok x w:=by
  intro i x hx;simp [part,isAgg,run_underlying he,hx]
 have pe:∀a:Int,(Op.equalIn (d+1) e (.int .u8 a) (.int .u8 a)).run P w= .ok true w:=λa=>by
  rw [run_equalIn_int w d e .u8 .u8 _ _ he];simp
 simp only [List.forIn_cons,List.forIn_nil,Sem.run_bind,px 0 (.int .u8 s0) rfl,px 1 (.int .u8 s1) rfl,px 2 (.int .u8 s2) rfl,px 3 (.int .u8 s3) rfl,pe,Result.andThen_ok,Bool.not_true,Bool.false_eq_true,if_false,Sem.run_pure]
theorem jRead_ok (n : Nat) (first last : Bool) (m : Nat) (B R : List Int) (w : World) (hn : n <= 20000) (hf : PgF n (flagI first last) m B R) (hm : B.length = m) (h1 : 1 <= m) (h2 : m <= 41) (h3 : m = 41 \/ last = true) :
    Calls Tryz.prog 148 #[.int .i64 n, .agg (b48 R).toArray] w λe w' => ∃ v, e = .returned (.tuple #[.bool first, .bool last, v, .int .i64 0]) /\ w'.ownsRow 0 5 1 v m (B.flatMap u8c) /\ Keeps (λ_ => False) w w' /\ (∀ g, v.ownBlock = some g -> w.heap.size <= g) := by
  obtain ⟨fl, hfl⟩ : ∃ z, flagI first last = z := ⟨_, rfl⟩;rw [hfl] at hf
  have hfc : (first = false /\ last = false /\ fl = 0) \/ (first = false /\ last = true /\ fl = 2) \/ (first = true /\ last = false /\ fl = 1) \/ (first = true /\ last = true /\ fl = 3) := by
    rw [<- hfl]; cases first <;> cases last <;> simp [flagI]
  have hfb : 0 <= fl /\ fl <= 3 := by rcases hfc with ⟨_, _, h⟩ | ⟨_, _, h⟩ | ⟨_, _, h⟩ | ⟨_, _, h⟩ <;> omega
  have n0 : (0 : Int) <= (n : Int) := by omega
  have n1 : (n : Int) <= 20000 := by omega
  have m1 : (1 : Int) <= (m : Int) := by omega
  have m2 : (m : Int) <= 41 := by omega
  have hb0 := heap_alloc_new w (.cells (b48 R).toArray 75);obtain ⟨W0, hW0⟩ : ∃ x, x = w.alloc (.cells (b48 R).toArray 75) := ⟨_, rfl⟩;have hk0 : Keeps (λ_ => False) w W0 := by rw [hW0]; exact Keeps.alloc _ _
  rw [<- hW0] at hb0;have hS1 : jrS1 w.heap.size (.int .u8 fl) (.int .u8 (m : Int)) W0.drew := ⟨Fy hb0 hf.len hf.c4, Fy hb0 hf.len hf.c5⟩;obtain ⟨s0, s1, s2, s3, hs, hjs⟩ : ∃ s0 s1 s2 s3, sum4 n R = [s0, s1, s2, s3] /\ ∀ W, Calls Tryz.prog 151 #[.int .i64 n, .agg (b48 R).toArray] W λe w' => e = .returned (.agg #[.int .u8 s0, .int .u8 s1, .int .u8 s2, .int .u8 s3]) /\ Keeps (λ_ => False) W w' := ⟨_, _, _, _, rfl, λW => Abm n R W hn hf.ok⟩;have ht4 : R.take 4 = [s0, s1, s2, s3] := hf.s.trans hs
  have r0 : R[0]? = some s0 := by have : (R.take 4)[0]? = some s0 := by rw [ht4]; rfl
                                  rwa [List.getElem?_take_of_lt (by omega)] at this
  have r1 : R[1]? = some s1 := by have : (R.take 4)[1]? = some s1 := by rw [ht4]; rfl
                                  rwa [List.getElem?_take_of_lt (by omega)] at this
  have r2 : R[2]? = some s2 := by have : (R.take 4)[2]? = some s2 := by rw [ht4]; rfl
                                  rwa [List.getElem?_take_of_lt (by omega)] at this
  have r3 : R[3]? = some s3 := by have : (R.take 4)[3]? = some s3 := by rw [ht4]; rfl
                                  rwa [List.getElem?_take_of_lt (by omega)] at this
  have h9 : ∀ b V, V.heap[b]? = some (.cells (b48 R).toArray 75 (0, 0)) -> jrS9 b (.int .u8 s0) (.int .u8 s1) (.int .u8 s2) (.int .u8 s3) (b48 R).toArray V := λb V hb => ⟨⟨⟨Fy hb hf.len r0, lt_of_block hb⟩, ⟨Fy hb hf.len r1, Fy hb hf.len r2⟩, Fy hb hf.len r3⟩, hb⟩
  have hsl : ∀ b V, (Instr.sliceAt 75 (.pointer (some ⟨b, 0, none⟩)) (some (.int .i64 6)) (some (.int .i64 (6 + (m : Int)))) none).run Tryz.prog V = .ok (.slice (some ⟨b, 6, none⟩) m 42) V := λb V => by
    rw [run_sliceAt_array_lh V 75 ⟨b, 0, none⟩ Tryz.underlying75 .i64 .i64 6 (6 + (m : Int)) (by omega) (by omega) (by show (6 + (m : Int)) <= 48; omega)];have : (6 + (m : Int)).toNat = 6 + m := by omega
    rw [this];go_simp
  have hcl : ∀ (b : Nat) (V : World), V.heap[b]? = some (.cells (b48 R).toArray 75 (0, 0)) -> Calls Tryz.prog 109 #[.slice (some ⟨b, 6, none⟩) m 42] V λe w' => ∃ v', e = .returned v' /\ w'.ownsRow 0 5 1 v' m (B.flatMap u8c) /\ Keeps (λ_ => False) V w' /\ (∀ k, v'.ownBlock = some k -> V.heap.size <= k) := λb V hV => Jo V (.slice (some ⟨b, 6, none⟩) m 42) m (B.flatMap u8c) (Adw hf hm h2 hV) (Ke B) (by omega);have hq4 : ∀ V, (Op.equalIn 10000 223 (.agg #[.int .u8 s0, .int .u8 s1, .int .u8 s2, .int .u8 s3]) (.agg #[.int .u8 s0, .int .u8 s1, .int .u8 s2, .int .u8 s3])).run Tryz.prog V = .ok true V := λV => Qt V 9998 223 _ Tryz.underlying223 Tryz.underlying5 (λw => by go_simp) s0 s1 s2 s3;obtain ⟨Hf, Hm, Hb0, Hk0, HS1, Hs, Hjs, Ht4, R0⟩ := hid9 hf hm hb0 hk0 hS1 hs hjs ht4 r0; clear r0 ht4 hjs hs hS1 hk0 hb0 hm hf; obtain ⟨R1, R2, R3, H9, Hcl, Hfc, Hfb⟩ := hid7 r1 r2 r3 h9 hcl hfc hfb; clear hfb hfc hcl h9 r3 r2 r1;go_enter Tryz.func148, Tryz.ntmps148;go_wp2_with fail;rw [<- hW0];clear hW0;obtain ⟨b, hb⟩ : ∃ b, w.heap.size = b := ⟨_, rfl⟩;rw [hb] at Hb0 HS1 ⊢;refine Cx 1 (jrJ n R b fl m w) (λa' _ => 47 - Dz 11 a') rfl ?_ ?_
  · rintro a' W ⟨q, u, rfl, q1, q2, hk, hb1⟩
    unfold jrFr;by_cases hq : q < 47
    · have hqi : (q : Int) < 47 := by omega
      have hc : W.cell? ⟨b, q, none⟩ = some (.int .u8 0) := Fy hb1 Hf.o.len (Hf.o.z q q1 hq);obtain ⟨Hk, Hb1⟩ := hid2 hk hb1; clear hb1 hk;go_wp2_with fail;go_step3;go_wp2;exact Aw ⟨jrJ.mk (q + 1) rfl (by omega) (by omega) Hk.o Hb1.o, by simp [Dz]; omega⟩
    · obtain rfl : q = 47 := by omega
      have h9 := H9.o b W.drew (Ad hb1 (Keeps.drew (S := λ_ => False) W) (by simp));obtain ⟨Hk, Hb1⟩ := hid2 hk hb1; clear hb1 hk;have H9' := Lib.hid h9;clear h9;go_wp2_with fail;refine Ak (jrS9 b (.int .u8 s0) (.int .u8 s1) (.int .u8 s2) (.int .u8 s3) (b48 R).toArray) (.take 0 (.take 1 (.take 3 (.fork 2 (.move 4 (.take 5 (.take 6 .done))) 4 (.take 5 (.move 2 (.take 6 .done))))))) (by kernel_rfl) (by kernel_rfl) ?_ ?_
      · exact H9'.o
      intro w1 hs1 hk1;have Hs1 := Lib.hid hs1;have Hk1 := Lib.hid hk1;clear hs1 hk1
      repeat (first
        | (refine Bl rfl (by rfl) ?_; try simp only [Act.put, List.setIfInBounds_toArray, List.set_cons_zero, List.set_cons_succ])
        | (refine Be rfl (by rfl) ?_; try simp only [Act.put, List.setIfInBounds_toArray, List.set_cons_zero, List.set_cons_succ])
        | (refine Bh (v := ?_) rfl (by rfl) ?_ ?_; rotate_left; (· intro w' hSw; unfold jrS9 at hSw; go_simp; (try with_reducible rfl)); rotate_right; try simp only [Act.put, List.setIfInBounds_toArray, List.set_cons_zero, List.set_cons_succ]))
      refine Ea rfl (by rfl) b rfl 75 (b48 R).toArray (0, 0) _ (λw' hS => hS.2) Tryz.underlying75 rfl Ay ?_
      try simp only [Act.put, List.setIfInBounds_toArray, List.set_cons_zero, List.set_cons_succ]
      repeat (first
        | (refine Bl rfl (by rfl) ?_; try simp only [Act.put, List.setIfInBounds_toArray, List.set_cons_zero, List.set_cons_succ])
        | (refine Be rfl (by rfl) ?_; try simp only [Act.put, List.setIfInBounds_toArray, List.set_cons_zero, List.set_cons_succ])
        | (refine Bh (v := ?_) rfl (by rfl) ?_ ?_; rotate_left; (· intro w' hSw; unfold jrS9 at hSw; go_simp; (try with_reducible rfl)); rotate_right; try simp only [Act.put, List.setIfInBounds_toArray, List.set_cons_zero, List.set_cons_succ]))
      refine Dk ?_ ?_ Hs1.o
      ·
        refine Ah rfl (λK hK => ?_);go_simp
        go_at_call 151
        ((with_reducible refine (Hjs.o _).mono ?_); rintro e w2 ⟨rfl, hk2⟩)
        dsimp only;have hs2 := Hs1.o.keep hk2;refine hK.out _ _ (by exact hs2) ?_;clear hK K
        try simp only [Act.put, List.setIfInBounds_toArray, List.set_cons_zero, List.set_cons_succ]
        have hat : ∀ V, (Instr.arrayAt 223 (.slice (some ⟨b, 0, none⟩) 4 48)).run Tryz.prog V = .ok (.pointer (some ⟨b, 0, none⟩)) V := λV => run_arrayAt V 223 _ 4 _ 4 48 Tryz.underlying223 (by omega);refine Ah rfl (λK hK => ?_);go_simp;refine hK.out _ _ (by exact hs2) ?_;clear hK K
        try simp only [Act.put, List.setIfInBounds_toArray, List.set_cons_zero, List.set_cons_succ]
        repeat (first
          | (refine Bl rfl (by rfl) ?_; try simp only [Act.put, List.setIfInBounds_toArray, List.set_cons_zero, List.set_cons_succ])
          | (refine Be rfl (by rfl) ?_; try simp only [Act.put, List.setIfInBounds_toArray, List.set_cons_zero, List.set_cons_succ])
          | (refine Bh (v := ?_) rfl (by rfl) ?_ ?_; rotate_left; (· intro w' hSw; unfold jrS9 at hSw; go_simp; (try with_reducible rfl)); rotate_right; try simp only [Act.put, List.setIfInBounds_toArray, List.set_cons_zero, List.set_cons_succ]))
        refine Ao ?_;have hk02 : Keeps (λ_ => False) w w2 := Keeps.nt Hk.o (Keeps.nt Hk1.o hk2);have hb2 := hs2.2;clear hs2 hk2;obtain ⟨Hk02, Hb2⟩ := hid2 hk02 hb2; clear hb2 hk02;rcases Hfc.o with ⟨rfl, rfl, rfl⟩ | ⟨rfl, rfl, rfl⟩ | ⟨rfl, rfl, rfl⟩ | ⟨rfl, rfl, rfl⟩
        all_goals
          go_wp2_with (go_at_call 109; (with_reducible refine (Hcl.o _ _ Hb2.o).mono ?_); rintro e w3 ⟨v3, rfl, hrow3, hk3, hv3⟩; have Hrow3 := Lib.hid hrow3; have Hk3 := Lib.hid hk3; have Hv3 := Lib.hid hv3; clear hrow3 hk3 hv3)
          refine Bq ?_;exact bodyPost_ret (v := .tuple #[.bool _, .bool _, v3, .int .i64 0]) (by simp [results, Tryz.results148, go_sem]; (first | decide | exact ⟨by decide, by decide⟩ | skip)) rfl ⟨v3, rfl, Hrow3.o, Keeps.nt Hk02.o Hk3.o, λg hg => Nat.le_trans Hk02.o.size (Hv3.o g hg)⟩
      · have hat : ∀ V, (Instr.arrayAt 223 (.slice (some ⟨b, 0, none⟩) 4 48)).run Tryz.prog V = .ok (.pointer (some ⟨b, 0, none⟩)) V := λV => run_arrayAt V 223 _ 4 _ 4 48 Tryz.underlying223 (by omega)
        refine Ah rfl (λK hK => ?_);go_simp;refine hK.out _ _ (by exact Hs1.o) ?_;clear hK K
        try simp only [Act.put, List.setIfInBounds_toArray, List.set_cons_zero, List.set_cons_succ]
        repeat (first
          | (refine Bl rfl (by rfl) ?_; try simp only [Act.put, List.setIfInBounds_toArray, List.set_cons_zero, List.set_cons_succ])
          | (refine Be rfl (by rfl) ?_; try simp only [Act.put, List.setIfInBounds_toArray, List.set_cons_zero, List.set_cons_succ])
          | (refine Bh (v := ?_) rfl (by rfl) ?_ ?_; rotate_left; (· intro w' hSw; unfold jrS9 at hSw; go_simp; (try with_reducible rfl)); rotate_right; try simp only [Act.put, List.setIfInBounds_toArray, List.set_cons_zero, List.set_cons_succ]))
        refine Ah rfl (λK hK => ?_);go_simp
        go_at_call 151
        ((with_reducible refine (Hjs.o _).mono ?_); rintro e w2 ⟨rfl, hk2⟩)
        dsimp only;have hs2 := Hs1.o.keep hk2;refine hK.out _ _ (by exact hs2) ?_;clear hK K
        try simp only [Act.put, List.setIfInBounds_toArray, List.set_cons_zero, List.set_cons_succ]
        repeat (first
          | (refine Bl rfl (by rfl) ?_; try simp only [Act.put, List.setIfInBounds_toArray, List.set_cons_zero, List.set_cons_succ])
          | (refine Be rfl (by rfl) ?_; try simp only [Act.put, List.setIfInBounds_toArray, List.set_cons_zero, List.set_cons_succ])
          | (refine Bh (v := ?_) rfl (by rfl) ?_ ?_; rotate_left; (· intro w' hSw; unfold jrS9 at hSw; go_simp; (try with_reducible rfl)); rotate_right; try simp only [Act.put, List.setIfInBounds_toArray, List.set_cons_zero, List.set_cons_succ]))
        refine Ao ?_;have hk02 : Keeps (λ_ => False) w w2 := Keeps.nt Hk.o (Keeps.nt Hk1.o hk2);have hb2 := hs2.2;clear hs2 hk2;obtain ⟨Hk02, Hb2⟩ := hid2 hk02 hb2; clear hb2 hk02;rcases Hfc.o with ⟨rfl, rfl, rfl⟩ | ⟨rfl, rfl, rfl⟩ | ⟨rfl, rfl, rfl⟩ | ⟨rfl, rfl, rfl⟩
        all_goals
          go_wp2_with (go_at_call 109; (with_reducible refine (Hcl.o _ _ Hb2.o).mono ?_); rintro e w3 ⟨v3, rfl, hrow3, hk3, hv3⟩; have Hrow3 := Lib.hid hrow3; have Hk3 := Lib.hid hk3; have Hv3 := Lib.hid hv3; clear hrow3 hk3 hv3)
          refine Bq ?_;exact bodyPost_ret (v := .tuple #[.bool _, .bool _, v3, .int .i64 0]) (by simp [results, Tryz.results148, go_sem]; (first | decide | exact ⟨by decide, by decide⟩ | skip)) rfl ⟨v3, rfl, Hrow3.o, Keeps.nt Hk02.o Hk3.o, λg hg => Nat.le_trans Hk02.o.size (Hv3.o g hg)⟩
  · intro hfirst
    have Hfirst := Lib.hid hfirst; clear hfirst;go_wp2_with fail;refine Ak (jrS1 b (.int .u8 fl) (.int .u8 (m : Int))) (.take 0 (.take 1 (.take 2 (.take 3 (.take 4 (.take 5 (.take 6 .done))))))) (by kernel_rfl) (by kernel_rfl) ?_ ?_
    · exact HS1.o
    intro w1 hs1 hk1;have Hs1 := Lib.hid hs1;have Hk1 := Lib.hid hk1;clear hs1 hk1
    repeat (first
      | (refine Bl rfl (by rfl) ?_; try simp only [Act.put, List.setIfInBounds_toArray, List.set_cons_zero, List.set_cons_succ])
      | (refine Be rfl (by rfl) ?_; try simp only [Act.put, List.setIfInBounds_toArray, List.set_cons_zero, List.set_cons_succ])
      | (refine Bh (v := ?_) rfl (by rfl) ?_ ?_; rotate_left; (· intro w' hSw; unfold jrS1 at hSw; go_simp; (try with_reducible rfl)); rotate_right; try simp only [Act.put, List.setIfInBounds_toArray, List.set_cons_zero, List.set_cons_succ]))
    have hk01 : Keeps (λ_ => False) w w1 := Keeps.nt Hk0.o Hk1.o;have hb1 : w1.heap[b]? = some (.cells (b48 R).toArray 75 (0, 0)) := Ad Hb0.o Hk1.o (by simp);have c47 : w1.cell? ⟨b, 47, none⟩ = some (.int .u8 90) := Fy hb1 Hf.o.len Hf.o.c47;obtain ⟨hfl0, hfl3⟩ := Hfb.o;obtain ⟨Hk01, Hb1⟩ := hid2 hk01 hb1; clear hb1 hk01;refine Ao ?_;have e6 : (6 + (m : Int)) = ((6 + m : Nat) : Int) := by omega
    have E6 := Lib.hid e6; clear e6;have h34 : m = 41 \/ (last = true /\ 2 <= fl) := by rcases h3 with h | h; exact .inl h; exact .inr ⟨h, by rcases Hfc.o with ⟨_, g, e⟩ | ⟨_, g, e⟩ | ⟨_, g, e⟩ | ⟨_, g, e⟩ <;> first | omega | (rw [h] at g; cases g)⟩
    rcases h34 with rfl | ⟨_, hfl2⟩
    all_goals
      go_wp2_with fail
    all_goals
      go_step3
      first | (rename_i hK; refine hK _ _ ?_) | (rename_i hK _; refine hK _ _ ?_) | (rename_i hK _ _; refine hK _ _ ?_)
      refine Hfirst.o _ _ ?_
      try rw [He6.o]
      first | exact jrJ.mk 47 rfl (by omega) (by omega) Hk01.o Hb1.o | exact jrJ.mk (6 + m) rfl (by omega) (by omega) Hk01.o Hb1.o
def Km(k:Nat)(B:List Int)(i:Nat):List Int:=pageR (k+i) (decide (i=0)) (decide (i+1=chunks B.length)) ((B.drop (41*i)).take 41)
theorem Pt{w w0 w3 w5:World}{vo v5:Value}(h1:K0 w w0)(h2:K0 w0 w3)(h3:Keeps (λk=>vo.ownBlock=some k) w3 w5)(hn:∀g,vo.ownBlock=some g->w.heap.size<=g)(hf:v5.ownBlock=vo.ownBlock\/∃g,v5.ownBlock=some g/\w3.heap.size<=g):
  K0 w w5/\∀g,v5.ownBlock=some g->w.heap.size<=g:=by
 have h12:=h1.nt h2;refine⟨h12.trans (h3.mono λk _ e=> .inr (hn k e)),λg hg=> ?_⟩;rcases hf with e|⟨g',e,h⟩
 ·exact hn g (e.symm.trans hg)
 ·rw [e] at hg;have e':g'=g:=Option.some.inj hg;have:=h12.size;omega
theorem Ad6(P k m:Nat)(B:List Int)(w:World)(hB:∀z∈B,0<=z/\z<=255)(hm:B.length=m)(h1:1<=m)(h2:m<=1000000)(hc:k+chunks m<=20000)
  (hl:∀i W,i<chunks m->K0 w W->Calls Tryz.prog 38 #[(.pointer (some ⟨P,0,none⟩)),.int .i64 ((k+i:Nat):Int)] W (Gs W (Km k B i) true)):
  Calls Tryz.prog 103 #[(.pointer (some ⟨P,0,none⟩)),.int .i64 k] w λe w'=>∃v,e= .returned (.tuple #[v,.int .i64 ((k+chunks m:Nat):Int),.bool true])/\w'.ownsRow 0 5 1 v m (B.flatMap u8c)/\K0 w w'/\(∀g,v.ownBlock=some g->w.heap.size<=g):=by
 obtain⟨i0,hi,hi0,hi1,hi2⟩:=info_parts Jc;obtain⟨C,hC⟩:=eX (chunks m);have hCm:m<=41*C/\41*C<=m+40:=by rw [<-hC];unfold chunks;omega
 rw [hC] at hc hl⊢;obtain⟨Hl,HB,Hm,Hi,Hi0,Hi1,Hi2,HC⟩:=hid8 hl hB hm hi hi0 hi1 hi2 hC;clear hC hi2 hi1 hi0 hi hm hB hl;go_enter Tryz.func103,Tryz.ntmps103;go_wp2_with fail
 go_loopw [1,7] (λa b wr=>∃(i:Nat) (v:Value),i<C/\a= .int .i64 ((k+i:Nat):Int)/\b=v/\wr.ownsRow 0 5 1 v (41*i) ((B.take (41*i)).flatMap u8c)/\K0 w wr/\(∀g,v.ownBlock=some g->w.heap.size<=g)) (λa _ _=>k+C-(intOf a).toNat)
 case atStart=>exact⟨0,_,by omega,rfl,rfl,World.ownsRow_nil _ _ _ _,Keeps.refl _ _,by simp [Value.ownBlock]⟩
 case round=>
  obtain⟨i,v,hiC,rfl,rfl,hown,hk,hnew⟩:=hrel;obtain⟨w0,hw0⟩:=eY wr;subst hw0;obtain⟨ad,cap,rfl,_,_⟩:=Ae hown;obtain⟨q,hq⟩:=eX (41*i);obtain⟨Bi,hBi⟩:=eX ((B.drop q).take 41);obtain⟨mi,hmi⟩:=eX Bi.length;have hmi':mi=min 41 (m-q):=by rw [<-hmi,<-hBi,List.length_take,List.length_drop,Hm.o]
  have hBok:∀z∈Bi,0<=z/\z<=255:=λz hz=>HB.o z (by rw [<-hBi] at hz;exact List.mem_of_mem_drop (List.mem_of_mem_take hz))
  have hjoin:(B.take q).flatMap u8c++Bi.flatMap u8c=(B.take (q+mi)).flatMap u8c:=by
   rw [<-List.flatMap_append]
   congr 1
   rw [List.take_add,<-hBi]
   congr 1
   rw [List.take_eq_take_iff,List.length_drop,Hm.o,hmi'];omega
  have m1:1<=mi:=j8;have m2:mi<=41:=j8;have hn:=hk.size;rw [hq] at hown hnew⊢;obtain⟨R,hR⟩:=eX (Km k B i);have hpl:=λW hW=>Hl.o i W hiC (hk.nt hW);rw [hR] at hpl;obtain⟨n,hkn⟩:=eX (k+i);obtain⟨fi,hfi⟩:∃b,decide (i=0)=b:=⟨_,rfl⟩;obtain⟨la,hla⟩:∃b,decide (i+1=C)=b:=⟨_,rfl⟩;have hpg:=Ab7 n fi la Bi hBok j6;have hRe:pageR n fi la Bi=R:=by rw [<-hR];unfold Km;rw [Hm.o,HC.o,hq,hBi,hfi,hla,hkn]
  rw [hRe,hmi] at hpg
  have h3:mi=41\/la=true:=by
   by_cases hlast:i+1=C
   ·exact .inr (by rw [<-hla];simp [hlast])
   ·exact .inl j6
  have hrd:=λW=>jRead_ok n fi la mi Bi R W j6 hpg hmi m1 m2 h3;rw [hkn] at hpl⊢;have nb:n<20000:=j8;clear hpg hRe h3 hBok;have hqm:q+mi<=m:=j8;have hlst:i+1=C->q+mi=m:=j8;have hmid:¬i+1=C->mi=41:=j8;obtain⟨Hown,Hk,Hnew,Hq,HBi,Hmi,Hmi',Hjoin,HR⟩:=hid9 hown hk hnew hq hBi hmi hmi' hjoin hR;clear hR hjoin hmi' hmi hBi hq hnew hk hown;obtain⟨Hpl,Hrd,Hkn,Hlst,Hmid⟩:=hid5 hpl hrd hkn hlst hmid;clear hmid hlst hkn hrd hpl;by_cases i00:i=0
  ·have en:n=k:=by have:=Hkn.o;omega
   subst en;have hfi':fi=true:=by rw [<-hfi];simp [i00]
   subst hfi';clear hfi;have I00:=Lib.hid i00;clear i00;by_cases hlast:i+1=C
   ·have hla':la=true:=by rw [<-hla];simp [hlast]
    subst hla';clear hla;have Hlast:=Lib.hid hlast;clear hlast
    go_wp2_with (first|(go_at_call 38;(with_reducible refine(Hpl.o _ (Keeps.refl _ _)).mono ?_);rintro e w1 ⟨rfl,hk1⟩;have Hk1:=Lib.hid hk1;clear hk1)|(refine wpList_store_row rfl 75 (.tmp 9) (.tmp 22) rfl w1.heap.size (b48 R).toArray rfl rfl 75 (b48 (List.replicate 48 0)).toArray (heap_alloc_new w1 _) Ay rfl (Dh _) ?_)|(refine wpList_load_row rfl 75 (.tmp 9) rfl w1.heap.size rfl 75 (b48 R).toArray _ _ (setRow_heap _ _ _ _ _ _ (heap_alloc_new w1 _)) Tryz.underlying75 rfl Ay ?_)|(go_at_call 148;(with_reducible refine(Hrd.o _).mono ?_);rintro e w3 ⟨v3,rfl,hrow3,hk3,hn3⟩;obtain⟨a3,c3,rfl,_,_⟩:=Ae hrow3;have hkw3:=((Keeps.nt Hk1.o (Keeps.alloc _ _)).trans ((Keeps.setRow _ _ _).mono λk _ e=> .inr jD)).nt hk3;have hown3:=hkw3.row Hown.o (by simp);have Hrow3:=Lib.hid hrow3;have Hkw3:=Lib.hid hkw3;have Hn3:=Lib.hid hn3;have Hown3:=Lib.hid hown3;clear hrow3 hk3 hn3 hkw3 hown3)|(at_builtin;refine Ap rfl (.tmp 43) (.tmp 44) 24 rfl 0 5 i0 _ 1 1 Tryz.underlying24 Hi.o Hi0.o Hi1.o Hi2.o rfl j7 (.slice ad q cap) q _ rfl Hown3.o _ mi _ rfl (Reads.Bb Hrow3.o) (Ke _) jd j6 j6 ?_;intro v5 w5 hown5 hk5 hf5))
    have hst:=j11;rw [Hjoin.o] at hown5;have hqe:=Hlst.o Hlast.o;rw [hqe,List.take_of_length_le j1J] at hown5;have hend:(n:Int)+1=((n+C:Nat):Int):=by have:=Hkn.o;have:=Hlast.o;omega
    exact j4I
   ·have hla':la=false:=by rw [<-hla];simp [hlast]
    subst hla';clear hla;have Hlast:=Lib.hid hlast;clear hlast
    go_wp2_with (first|(go_at_call 38;(with_reducible refine(Hpl.o _ (Keeps.refl _ _)).mono ?_);rintro e w1 ⟨rfl,hk1⟩;have Hk1:=Lib.hid hk1;clear hk1)|(refine wpList_store_row rfl 75 (.tmp 9) (.tmp 22) rfl w1.heap.size (b48 R).toArray rfl rfl 75 (b48 (List.replicate 48 0)).toArray (heap_alloc_new w1 _) Ay rfl (Dh _) ?_)|(refine wpList_load_row rfl 75 (.tmp 9) rfl w1.heap.size rfl 75 (b48 R).toArray _ _ (setRow_heap _ _ _ _ _ _ (heap_alloc_new w1 _)) Tryz.underlying75 rfl Ay ?_)|(go_at_call 148;(with_reducible refine(Hrd.o _).mono ?_);rintro e w3 ⟨v3,rfl,hrow3,hk3,hn3⟩;obtain⟨a3,c3,rfl,_,_⟩:=Ae hrow3;have hkw3:=((Keeps.nt Hk1.o (Keeps.alloc _ _)).trans ((Keeps.setRow _ _ _).mono λk _ e=> .inr jD)).nt hk3;have hown3:=hkw3.row Hown.o (by simp);have Hrow3:=Lib.hid hrow3;have Hkw3:=Lib.hid hkw3;have Hn3:=Lib.hid hn3;have Hown3:=Lib.hid hown3;clear hrow3 hk3 hn3 hkw3 hown3)|(at_builtin;refine Ap rfl (.tmp 43) (.tmp 44) 24 rfl 0 5 i0 _ 1 1 Tryz.underlying24 Hi.o Hi0.o Hi1.o Hi2.o rfl j7 (.slice ad q cap) q _ rfl Hown3.o _ mi _ rfl (Reads.Bb Hrow3.o) (Ke _) jd j6 j6 ?_;intro v5 w5 hown5 hk5 hf5))
    have hst:=j11;rw [Hjoin.o] at hown5;have hqe:q+mi=41*(i+1):=by have:=Hmid.o Hlast.o;have:=Hq.o;omega
    rw [hqe] at hown5;refine⟨⟨i+1,v5,by have:=Hlast.o;omega,by rw [show n+(i+1)=n+1 by have:=Hkn.o;omega];go_num,rfl,hown5,hst.1,hst.2⟩,by have:=Hkn.o;simp [intOf];omega⟩
  ·have hne:¬(n:Int)=(k:Int):=by have:=Hkn.o;omega
   have hfi':fi=false:=by rw [<-hfi];simp [i00]
   subst hfi';clear hfi;have I00:=Lib.hid i00;clear i00;by_cases hlast:i+1=C
   ·have hla':la=true:=by rw [<-hla];simp [hlast]
    subst hla';clear hla;have Hlast:=Lib.hid hlast;clear hlast
    go_wp2_with (first|(go_at_call 38;(with_reducible refine(Hpl.o _ (Keeps.refl _ _)).mono ?_);rintro e w1 ⟨rfl,hk1⟩;have Hk1:=Lib.hid hk1;clear hk1)|(refine wpList_store_row rfl 75 (.tmp 9) (.tmp 22) rfl w1.heap.size (b48 R).toArray rfl rfl 75 (b48 (List.replicate 48 0)).toArray (heap_alloc_new w1 _) Ay rfl (Dh _) ?_)|(refine wpList_load_row rfl 75 (.tmp 9) rfl w1.heap.size rfl 75 (b48 R).toArray _ _ (setRow_heap _ _ _ _ _ _ (heap_alloc_new w1 _)) Tryz.underlying75 rfl Ay ?_)|(go_at_call 148;(with_reducible refine(Hrd.o _).mono ?_);rintro e w3 ⟨v3,rfl,hrow3,hk3,hn3⟩;obtain⟨a3,c3,rfl,_,_⟩:=Ae hrow3;have hkw3:=((Keeps.nt Hk1.o (Keeps.alloc _ _)).trans ((Keeps.setRow _ _ _).mono λk _ e=> .inr jD)).nt hk3;have hown3:=hkw3.row Hown.o (by simp);have Hrow3:=Lib.hid hrow3;have Hkw3:=Lib.hid hkw3;have Hn3:=Lib.hid hn3;have Hown3:=Lib.hid hown3;clear hrow3 hk3 hn3 hkw3 hown3)|(at_builtin;refine Ap rfl (.tmp 43) (.tmp 44) 24 rfl 0 5 i0 _ 1 1 Tryz.underlying24 Hi.o Hi0.o Hi1.o Hi2.o rfl j7 (.slice ad q cap) q _ rfl Hown3.o _ mi _ rfl (Reads.Bb Hrow3.o) (Ke _) jd j6 j6 ?_;intro v5 w5 hown5 hk5 hf5))
    have hst:=j11;rw [Hjoin.o] at hown5;have hqe:=Hlst.o Hlast.o;rw [hqe,List.take_of_length_le j1J] at hown5;have hend:(n:Int)+1=((k+C:Nat):Int):=by have:=Hkn.o;have:=Hlast.o;omega
    exact j4I
   ·have hla':la=false:=by rw [<-hla];simp [hlast]
    subst hla';clear hla;have Hlast:=Lib.hid hlast;clear hlast
    go_wp2_with (first|(go_at_call 38;(with_reducible refine(Hpl.o _ (Keeps.refl _ _)).mono ?_);rintro e w1 ⟨rfl,hk1⟩;have Hk1:=Lib.hid hk1;clear hk1)|(refine wpList_store_row rfl 75 (.tmp 9) (.tmp 22) rfl w1.heap.size (b48 R).toArray rfl rfl 75 (b48 (List.replicate 48 0)).toArray (heap_alloc_new w1 _) Ay rfl (Dh _) ?_)|(refine wpList_load_row rfl 75 (.tmp 9) rfl w1.heap.size rfl 75 (b48 R).toArray _ _ (setRow_heap _ _ _ _ _ _ (heap_alloc_new w1 _)) Tryz.underlying75 rfl Ay ?_)|(go_at_call 148;(with_reducible refine(Hrd.o _).mono ?_);rintro e w3 ⟨v3,rfl,hrow3,hk3,hn3⟩;obtain⟨a3,c3,rfl,_,_⟩:=Ae hrow3;have hkw3:=((Keeps.nt Hk1.o (Keeps.alloc _ _)).trans ((Keeps.setRow _ _ _).mono λk _ e=> .inr jD)).nt hk3;have hown3:=hkw3.row Hown.o (by simp);have Hrow3:=Lib.hid hrow3;have Hkw3:=Lib.hid hkw3;have Hn3:=Lib.hid hn3;have Hown3:=Lib.hid hown3;clear hrow3 hk3 hn3 hkw3 hown3)|(at_builtin;refine Ap rfl (.tmp 43) (.tmp 44) 24 rfl 0 5 i0 _ 1 1 Tryz.underlying24 Hi.o Hi0.o Hi1.o Hi2.o rfl j7 (.slice ad q cap) q _ rfl Hown3.o _ mi _ rfl (Reads.Bb Hrow3.o) (Ke _) jd j6 j6 ?_;intro v5 w5 hown5 hk5 hf5))
    have hst:=j11;rw [Hjoin.o] at hown5;have hqe:q+mi=41*(i+1):=by have:=Hmid.o Hlast.o;have:=Hq.o;omega
    rw [hqe] at hown5;refine⟨⟨i+1,v5,by have:=Hlast.o;omega,by rw [show k+(i+1)=n+1 by have:=Hkn.o;omega];go_num,rfl,hown5,hst.1,hst.2⟩,by have:=Hkn.o;simp [intOf];omega⟩
structure Pk(p:Pd)(B:List Int):Prop where
 lv:∀i,i<chunks B.length->p.l[i]?=some ⟨2,Km 0 B i⟩
 blank:∀i x,chunks B.length<=i->p.l[i]?=some x->x.is=0
theorem Pk.dry{p:Pd}{B:List Int}(h:Pk p B):p.l.map dryL=p.l:=by
 apply List.ext_getElem?
 intro i;rw [List.getElem?_map];rcases hx:p.l[i]? with _|x
 ·rfl
 ·simp only [Option.map_some,Option.some.injEq];unfold dryL;rw [if_neg];by_cases hi:i<chunks B.length
  ·rw [h.lv i hi] at hx
   cases hx
   exact(by decide:¬(2:Int)=1)
  ·have:=h.blank i x j6 hx;omega
def usedM(J:Nat)(w:World):Nat:=match w.cell? ⟨J,3,none⟩ with|some (.int _ z)=>(1-z).toNat|_=>0
structure JoSt(w3 wr:World)(J P:Nat)(fl:Int)(B:List Int)(vl:Value)(us:Nat):Prop where
 kp:Keeps (λk=>k=J) w3 wr
 jr:JrnAt wr J P fl vl us
 st:(us=0/\vl= .slice none 0 0)\/(us=chunks B.length/\∃vb,wr.ownsRow 0 24 1 vl 1 [vb]/\wr.ownsRow 0 5 1 vb B.length (B.flatMap u8c)/\(∀g,vl.ownBlock=some g->w3.heap.size<=g)/\∀g,vb.ownBlock=some g->w3.heap.size<=g)
theorem JoSt.meas{w3 wr:World}{J P:Nat}{fl:Int}{B:List Int}{vl:Value}{us:Nat}(h:JoSt w3 wr J P fl B vl us):usedM J wr=1-us:=by
 unfold usedM;rw [Aa h.jr.blk 3];simp
theorem JoSt.put{w3 w4 w5 w6:World}{J P:Nat}{fl:Int}{B:List Int}{vb v6:Value}(h:JoSt w3 w4 J P fl B (.slice none 0 0) 0)(h5:K0 w4 w5)(h6:K0 w5 w6)(hr:w5.ownsRow 0 5 1 vb B.length (B.flatMap u8c))(hn:∀g,vb.ownBlock=some g->w4.heap.size<=g)(ho:w6.ownsRow 0 24 1 v6 1 [vb])
  (hf:∀g,v6.ownBlock=some g->w5.heap.size<=g):JoSt w3 ((w6.setCell ⟨J,2,none⟩ v6).setCell ⟨J,3,none⟩ (.int .i64 (chunks B.length:Nat))) J P fl B v6 (chunks B.length):=by
 have hJ6:=Ad (Ad h.jr.blk h5 (by simp)) h6 (by simp);have hk:Keeps (λk=>k=J) w6 ((w6.setCell ⟨J,2,none⟩ v6).setCell ⟨J,3,none⟩ (.int .i64 (chunks B.length:Nat))):=(Keeps.setCell (S:=λk=>k=J) _ _ _ rfl).trans (Keeps.setCell _ _ _ (.inl rfl));have hs:=h.kp.size;have hs5:=h5.size;refine⟨h.kp.trans (((h5.nt h6).mono (by simp)).trans (hk.mono λi _ e=> .inl (.inl e))),⟨(heap_setCell_same _ _ 3 _ _ _ (heap_setCell_same _ _ 2 _ _ v6 hJ6)).trans rfl⟩,.inr ⟨rfl,vb,hk.row ho (λk hk e=>Ai ho hJ6 j7 (e▸hk)),hk.row (h6.row hr (by simp)) (λk hk e=>Ai (h6.row hr (by simp)) hJ6 j7 (e▸hk)),λg hg=>by have:=hf g hg;omega,λg hg=>by have:=hn g hg;omega⟩⟩
def JOne(w:World)(P:Nat)(v:Value)(p:Pd)(B:List Int)(e:Ending)(w':World):Prop:=
 ∃J vl vb,e= .returned (.tuple #[(.pointer (some ⟨J,0,none⟩)),.int .i64 0])/\w.heap.size<=J/\JrnAt w' J P p.fl vl (chunks B.length)/\w'.ownsRow 0 24 1 vl 1 [vb]/\w'.ownsRow 0 5 1 vb B.length (B.flatMap u8c)/\(∀g,vl.ownBlock=some g->w.heap.size<=g)/\(∀g,vb.ownBlock=some g->w.heap.size<=g)/\PadAt w' P v (Cm p)/\Keeps (PFoot P v) w w'
theorem jOpen_one(P:Nat)(v:Value)(p:Pd)(B:List Int)(w:World)(h:PadAt w P v p)(hf:p.fl+1<=1000000)(hd:p.dn=false)(hs:¬p.sn=1)(hb:Pk p B)(hB:∀z∈B,0<=z/\z<=255)(hB1:1<=B.length)(hB2:B.length<=1000000)(hroom:chunks B.length<=p.l.length):
  Calls Tryz.prog 57 #[(.pointer (some ⟨P,0,none⟩))] w (JOne w P v p B):=by
 obtain⟨i0,hi,hi0,hi1,hi2⟩:=info_parts Mi;have h1:=Ma P v p w h;rw [hd] at h1;have h2:=Kt P v p w h;obtain⟨w1,hw1⟩:=eY (w.alloc (.cells #[(.pointer (some ⟨P,0,none⟩)),.int .i64 p.fl,.slice none 0 0,.int .i64 0] 168));have hk1:K0 w w1:=by rw [hw1];exact Keeps.alloc _ _
 have hJ1:w1.heap[w.heap.size]?=some (.cells #[(.pointer (some ⟨P,0,none⟩)),.int .i64 p.fl,.slice none 0 0,.int .i64 0] 168 (0,0)):=by rw [hw1];exact heap_alloc_new w _
 have hp1:=h.keeps hk1 (by simp);have hdry:=Pg P v p w1 hp1 hf hd hs;rw [hb.dry,show({ Cm p with l:=p.l }:Pd)=Cm p by rw [<-Js p]] at hdry;have hlt:=h.row.lt;obtain⟨C,hC⟩:=eX (chunks B.length);obtain⟨q,hq⟩:=eX (Cm p);have hql:q.l=p.l:=by rw [<-hq,Js]
 have hC1:1<=C:=by rw [<-hC];unfold chunks;omega
 have hm2:=h.n;rw [hC] at hroom
 have hrecs:∀(W:World) (i:Nat),PadAt W P v q->i<C->Calls Tryz.prog 38 #[(.pointer (some ⟨P,0,none⟩)),.int .i64 ((0+i:Nat):Int)] W (Gs W (Km 0 B i) true):=λW i hW hi=>by
  have:=Uq P v q (0+i) ⟨2,Km 0 B i⟩ W hW (by rw [hql,Nat.zero_add];exact hb.lv i (by rw [hC];exact hi))
  simpa using this
 have hlb:∀(W:World) (k:Nat),PadAt W P v q->C<=k->Calls Tryz.prog 38 #[(.pointer (some ⟨P,0,none⟩)),.int .i64 k] W (Gs W [] false):=λW k hW hk=>Np P v _ k W hW (λx hx=>hb.blank k x (by rw [hC];exact hk) (by rw [<-hql];exact hx));have hln:∀(W:World),PadAt W P v q->Calls Tryz.prog 26 #[(.pointer (some ⟨P,0,none⟩))] W λe w'=>e= .returned (.int .i64 p.l.length)/\w'=W:=λW hW=>by have:=Kr P v _ W hW;rw [hql] at this;exact this
 have hr1:∀(W:World),PadAt W P v q->Calls Tryz.prog 103 #[(.pointer (some ⟨P,0,none⟩)),.int .i64 0] W λe w'=>∃v,e= .returned (.tuple #[v,.int .i64 (C:Int),.bool true])/\w'.ownsRow 0 5 1 v B.length (B.flatMap u8c)/\K0 W w'/\(∀g,v.ownBlock=some g->W.heap.size<=g):=λW hW=>by
  have:=Ad6 P 0 B.length B W hB rfl hB1 hB2 (by rw [hC];omega) (λi V hi hk=>hrecs V i (hW.keeps hk (by simp)) (by rw [<-hC];exact hi));rw [Nat.zero_add,hC] at this;exact this
 have hr2:∀(W:World),PadAt W P v q->Calls Tryz.prog 103 #[(.pointer (some ⟨P,0,none⟩)),.int .i64 (C:Int)] W λe w'=>e= .returned (.tuple #[.slice none 0 0,.int .i64 0,.bool false])/\K0 W w':=λW hW=>Ut P C W (λV hk=>hlb V C (hW.keeps hk (by simp)) (Nat.le_refl _));rw [hq] at hdry;obtain⟨m,hm⟩:=eX p.l.length;obtain⟨mB,hmB⟩:=eX B.length;rw [hm] at hln hm2 hroom;rw [hmB] at hr1;obtain⟨H,H1,H2,Hw1,Hk1,HJ1,Hp1,Hdry,Hlt⟩:=hid9 h h1 h2 hw1 hk1 hJ1 hp1 hdry hlt;clear hlt hdry hp1 hJ1 hk1 hw1 h2 h1 h;obtain⟨Hlb,Hln,Hm,HmB,Hb,Hr1,Hr2,Hrecs,Hq⟩:=hid9 hlb hln hm hmB hb hr1 hr2 hrecs hq;clear hq hrecs hr2 hr1 hb hmB hm hln hlb;obtain⟨Hql,HC,Hi,Hi0,Hi1,Hi2,HB⟩:=hid7 hql hC hi hi0 hi1 hi2 hB;clear hB hi2 hi1 hi0 hi hC hql;go_enter Tryz.func57,Tryz.ntmps57
 go_wp2_with (first|(go_at_call 100;(with_reducible refine H1.o.mono ?_);rintro e w2 ⟨rfl,hw2⟩;subst w2)|(go_at_call 101;(with_reducible refine H2.o.mono ?_);rintro e w2 ⟨rfl,hw2⟩;subst w2)|(go_at_call 102;rw [<-Hw1.o];(with_reducible refine Hdry.o.mono ?_);rintro e w3 ⟨rfl,hp3,hk3⟩;have Hp3:=Lib.hid hp3;have Hk3:=Lib.hid hk3;clear hp3 hk3))
 obtain⟨J,hJe⟩:=eX w.heap.size;have hk03:Keeps (PFoot P v) w w3:=(Hk1.o.mono λ_ _ h=>h.elim).trans (Hk3.o.mono λ_ _ e=> .inl e)
 have hfw:∀k,PFoot P v k->k<J:=by
  rintro k (rfl|hk)
  ·rw [<-hJe];exact lt_of_block H.o.blk
  ·rw [<-hJe];exact(Hlt.o k hk).2
 have hJ3:w3.heap[J]?=some (.cells #[(.pointer (some ⟨P,0,none⟩)),.int .i64 p.fl,.slice none 0 0,.int .i64 0] 168 (0,0)):=by
  have:=HJ1.o;rw [hJe] at this;rw [Hk3.o.block _ (lt_of_block this) (λe=>by have:=hfw _ e;omega)];exact this
 have hst:JoSt w3 w3 J P p.fl B (.slice none 0 0) 0:=⟨Keeps.refl _ _,⟨hJ3⟩,.inl ⟨rfl,rfl⟩⟩;rw [hJe];obtain⟨Hk03,HJ3,Hfw,Hst,HJe⟩:=hid5 hk03 hJ3 hfw hst hJe;clear hJe hst hfw hJ3 hk03
 go_loopw [8] (λ_ wr=>∃vl us,JoSt w3 wr J P p.fl B vl us) (λ_ wr=>usedM J wr)
 case atStart=>exact⟨_,_,Hst.o⟩
 case round=>
  obtain⟨vl,us,hs⟩:=hrel;obtain⟨w4,hw4⟩:=eY wr;subst hw4;have c0:=Aa hs.jr.blk 2;have c3:=Aa hs.jr.blk 3;have f2:=Ab hs.jr.blk 2;have f3:=Ab hs.jr.blk 3;have lJ:=lt_of_block hs.jr.blk;have hp4:=Hp3.o.keeps hs.kp (λk hk e=>by have:=Hfw.o k hk;omega);rcases hs.st with⟨rfl,rfl⟩|⟨rfl,vb,hrl,hrb,hn1,hn2⟩
  ·have hrc:=Hr1.o w4 hp4;obtain⟨Hs,Hp4,Hrc⟩:=hid3 hs hp4 hrc;clear hrc hp4 hs;have hms:=Hs.o.meas;have Hms:=Lib.hid hms;clear hms
   go_wp2_with (first|(go_at_call 103;(with_reducible refine Hrc.o.mono ?_);rintro e w5 ⟨vb,rfl,hrow5,hk5,hn5⟩;obtain⟨ab,cb,rfl,_,_⟩:=Ae hrow5;have c0':=(hk5.cell lJ (by simp)).trans c0;have hj5:=Ad Hs.o.jr.blk hk5 (by simp);have f2':=Ab hj5 2;have f3':=Ab hj5 3;have c3':=Aa hj5 3;have lJ':=lt_of_block hj5;have Hrow5:=Lib.hid hrow5;have Hk5:=Lib.hid hk5;have Hn5:=Lib.hid hn5;have Hj5:=Lib.hid hj5;clear hrow5 hk5 hn5 hj5)|(at_builtin;refine Ap rfl (.tmp 46) (.tmp 48) 107 rfl 0 24 i0 _ 1 24 Tryz.underlying107 Hi.o Hi0.o Hi1.o Hi2.o rfl j7 (.slice none 0 0) 0 [] rfl (World.ownsRow_nil _ _ _ _) _ 1 _ rfl (Reads.lit _ _ _ _ _ rfl) jg jd j6 j6 ?_;intro v6 w6 hown6 hk6 hf6;obtain⟨a6,c6,rfl,_,_⟩:=Ae hown6;have hk56:K0 w5 w6:=(Keeps.alloc _ _).trans (hk6.mono λk _ e=>by simp [Value.ownBlock] at e);have hj6:=Ad Hj5.o hk56 (by simp);have g2:=Ab hj6 2;have g3:=Ab hj6 3;have d2:=Aa hj6 2;have d3:=Aa hj6 3;have l6:=lt_of_block hj6;have Hown6:=Lib.hid hown6;have Hk56:=Lib.hid hk56;have Hf6:=Lib.hid hf6;clear hown6 hk6 hf6 hj6 c0' c3' f2' f3' lJ'))
   have hfn:∀g,(Value.slice a6 1 c6).ownBlock=some g->w5.heap.size<=g:=λg hg=>by
    rcases Hf6.o with e|⟨g',e,h⟩
    ·have:=e.symm.trans hg;simp [Value.ownBlock] at this
    ·rw [hg] at e;have e':g=g':=Option.some.inj e;simp at h;omega
   have hrw5:=Hrow5.o;rw [<-HmB.o] at hrw5 Hown6 Hn5;have hend:=Hs.o.put Hk5.o Hk56.o hrw5 Hn5.o Hown6.o hfn;have hm2:=hend.meas;rw [HC.o] at hend hm2;refine⟨⟨_,_,hend⟩, ?_⟩;rw [hm2,Hms.o];omega
  ·rw [HC.o] at c3;have hrc:=Hr2.o w4 hp4;obtain⟨Hs,Hp4,Hrc,Hrl,Hrb,Hn1,Hn2⟩:=hid7 hs hp4 hrc hrl hrb hn1 hn2;clear hn2 hn1 hrb hrl hrc hp4 hs;clear c0 f2 f3
   go_wp2_with (go_at_call 103;(with_reducible refine Hrc.o.mono ?_);rintro e w5 ⟨rfl,hk5⟩;have c5:w5.cell? ⟨J,3,none⟩=some (.int .i64 (C:Int)):=(hk5.cell lJ (by simp)).trans c3;have l5:=Nat.lt_of_lt_of_le lJ hk5.size;have Hk5:=Lib.hid hk5;clear hk5)
   go_loopw [9] (λa wr=>∃k:Nat,C<=k/\k<=m/\a= .int .i64 k/\K0 w4 wr) (λa _=>m-(intOf a).toNat)
   case atStart=>exact⟨C,Nat.le_refl _,hroom,rfl,Hk5.o⟩
   case round=>
    obtain⟨k,hCk,hk,rfl,hkr⟩:=hrel;have hpr:=Hp4.o.keeps hkr (by simp);have hl1:=Hln.o wr hpr;have hl2:=Hlb.o wr k hpr hCk;by_cases hkm:k<m
    ·have hkI:(k:Int)<(m:Int):=j8;obtain⟨Hkr,Hpr,Hl1,Hl2⟩:=hid4 hkr hpr hl1 hl2;clear hl2 hl1 hpr hkr
     go_wp2_with (first|(go_at_call 26;(with_reducible refine Hl1.o.mono ?_);rintro e w6 ⟨rfl,hw6⟩;subst w6)|(go_at_call 38;(with_reducible refine Hl2.o.mono ?_);rintro e w6 ⟨rfl,hk6⟩;have Hk6:=Lib.hid hk6;clear hk6)|(refine wpList_store_row rfl 75 (.tmp 10) (.tmp 69) rfl w6.heap.size (b48 []).toArray rfl rfl 75 (b48 (List.replicate 48 0)).toArray (heap_alloc_new w6 _) Ay rfl (Dh _) ?_))
     refine⟨⟨k+1,by omega,by omega,by go_num,(Keeps.nt (Keeps.nt Hkr.o Hk6.o) (Keeps.alloc _ _)).trans ((Keeps.setRow _ _ _).mono λi _ e=> .inr (by have:=Hkr.o.size;have:=Hk6.o.size;omega))⟩,by simp [intOf];omega⟩
    ·obtain rfl:k=m:=by omega
     have hkJ:Keeps (λk=>k=J) w3 wr:=Hs.o.kp.trans (hkr.mono (by simp));have hend:JOne w P v p B (.returned (.tuple #[(.pointer (some ⟨J,0,none⟩)),.int .i64 0])) wr:=⟨J,vl,vb,rfl,Nat.le_of_eq HJe.o,⟨Ad Hs.o.jr.blk hkr (by simp)⟩,hkr.row Hrl.o (by simp),hkr.row Hrb.o (by simp),λg hg=>Nat.le_trans Hk03.o.size (Hn1.o g hg),λg hg=>Nat.le_trans Hk03.o.size (Hn2.o g hg),by rw [Hq.o];exact hpr,Hk03.o.trans (hkJ.mono λi _ e=> .inr (by have:=HJe.o;omega))⟩;obtain⟨Hkr,Hpr,Hl1,Hl2,Hend⟩:=hid5 hkr hpr hl1 hl2 hend;clear hend hl2 hl1 hpr hkr
     go_wp2_with (first|(go_at_call 26;(with_reducible refine Hl1.o.mono ?_);rintro e w6 ⟨rfl,hw6⟩;subst w6))
     exact bodyPost_ret (v:= .tuple #[(.pointer (some ⟨J,0,none⟩)),.int .i64 0]) (by simp [results,Tryz.results57,go_sem]) rfl Hend.o
def JRecs(w:World)(B:List Int)(e:Ending)(w':World):Prop:=∃vl vb,e= .returned vl/\w'.ownsRow 0 24 1 vl 1 [vb]/\w'.ownsRow 0 5 1 vb B.length (B.flatMap u8c)/\K0 w w'/\(∀g,vb.ownBlock=some g->w.heap.size<=g)
theorem Zi(J P:Nat)(fl used:Int)(vl vb:Value)(B:List Int)(w:World)(h:JrnAt w J P fl vl used)(hrl:w.ownsRow 0 24 1 vl 1 [vb])(hrb:w.ownsRow 0 5 1 vb B.length (B.flatMap u8c))(hB:B.length<=1000000):
  Calls Tryz.prog 59 #[(.pointer (some ⟨J,0,none⟩))] w (JRecs w B):=by
 obtain⟨i0,hi,hi0,hi1,hi2⟩:=info_parts Mi;obtain⟨al,cl,rfl,_,_⟩:=Ae hrl;obtain⟨ab,cb,rfl,_,_⟩:=Ae hrb
 have hown:∃g,al=some ⟨g,0,none⟩:=by
  rcases hrl.2 with⟨e,e2⟩|⟨g',cap',cur,hv,_⟩
  ·exact absurd (Value.slice.inj e).2.1 j6
  ·exact⟨g',(Value.slice.inj hv).1⟩
 obtain⟨g,rfl⟩:=hown;have c2:w.cell? ⟨J,2,none⟩=some (.slice (some ⟨g,0,none⟩) 1 cl):=Aa h.blk 2;have cg:w.cell? ⟨g,0,none⟩=some (.slice ab B.length cb):=by have:=hrl.cells (g:=g) rfl 0 _ rfl;rw [Dx] at this;exact this
 have lJ:=lt_of_block h.blk;have lg:=Ag cg;have hcl:=λW (hW:K0 w W)=>Jo W (.slice ab B.length cb) B.length (B.flatMap u8c) (Reads.Bb (hW.row hrb (by simp))) (Ke B) j6;obtain⟨m,hm⟩:=eX B.length;have hfin:∀vl' vb' w',w'.ownsRow 0 24 1 vl' 1 [vb']->w'.ownsRow 0 5 1 vb' m (B.flatMap u8c)->K0 w w'->(∀g,vb'.ownBlock=some g->w.heap.size<=g)->JRecs w B (.returned vl') w':=λvl' vb' w' h1 h2 h3 h4=>⟨vl',vb',rfl,h1,by rw [hm];exact h2,h3,h4⟩;rw [hm] at hcl cg hB;obtain⟨H,Hrl,Hrb,Hcl,Hm,Hfin,Hi,Hi0,Hi1⟩:=hid9 h hrl hrb hcl hm hfin hi hi0 hi1;clear hi1 hi0 hi hfin hm hcl hrb hrl h;have Hi2:=Lib.hid hi2;clear hi2;go_enter Tryz.func59,Tryz.ntmps59;go_wp2_with fail
 go_loopw [3,13] (λb c wr=>K0 w wr/\((b= .slice none 0 0/\c= .int .i64 0)\/(c= .int .i64 1/\∃a k vb',b= .slice a 1 k/\wr.ownsRow 0 24 1 b 1 [vb']/\wr.ownsRow 0 5 1 vb' m (B.flatMap u8c)/\∀g,vb'.ownBlock=some g->w.heap.size<=g))) (λ_ c _=>1-(intOf c).toNat)
 case atStart=>exact⟨Keeps.refl _ _,.inl ⟨rfl,rfl⟩⟩
 case round=>
  obtain⟨hk,⟨rfl,rfl⟩|⟨rfl,a,k,vb',rfl,h1,h2,h3⟩⟩:=hrel
  ·obtain⟨w4,hw4⟩:=eY wr;subst hw4;have cg4:=(hk.cell lg (by simp)).trans cg;have lg4:=Nat.lt_of_lt_of_le lg hk.size;have Hk:=Lib.hid hk;clear hk
   go_wp2_with (first|(go_at_call 109;(with_reducible refine(Hcl.o _ Hk.o).mono ?_);rintro e w5 ⟨v5,rfl,hrow5,hk5,hn5⟩;obtain⟨a5,c5,rfl,_,_⟩:=Ae hrow5;have Hrow5:=Lib.hid hrow5;have Hk5:=Lib.hid hk5;have Hn5:=Lib.hid hn5;clear hrow5 hk5 hn5)|(at_builtin;refine Ap rfl (.tmp 17) (.tmp 20) 107 rfl 0 24 i0 _ 1 24 Tryz.underlying107 Hi.o Hi0.o Hi1.o Hi2.o rfl j7 (.slice none 0 0) 0 [] rfl (World.ownsRow_nil _ _ _ _) _ 1 _ rfl (Reads.lit _ _ _ _ _ rfl) jg jd j6 j6 ?_;intro v6 w6 hown6 hk6 hf6;obtain⟨a6,c6,rfl,_,_⟩:=Ae hown6;have hk56:K0 w5 w6:=(Keeps.alloc _ _).trans (hk6.mono λk _ e=>by simp [Value.ownBlock] at e);have Hown6:=Lib.hid hown6;have Hk56:=Lib.hid hk56;clear hown6 hk6 hf6 hk56))
   refine⟨⟨Hk.o.nt (Hk5.o.nt Hk56.o),.inr ⟨rfl,a6,c6,_,rfl,Hown6.o,Hk56.o.row Hrow5.o (by simp),λg hg=>Nat.le_trans Hk.o.size (Hn5.o g hg)⟩⟩,by simp [intOf]⟩
  ·have hend:=Hfin.o _ _ _ h1 h2 hk h3;clear h1 h2 h3;obtain⟨Hk,Hend⟩:=hid2 hk hend;clear hend hk;go_wp2;go_ret;exact Hend.o
end Go.Proofs.YtgbgmadkmabeeaaGreat
