/- Part 31 of what the laws of this seat share: walks of functions, and plain laws. -/
import Derived.Test.YtjkdnaljkdnomaaGreatDoorS30
set_option maxRecDepth 100000
set_option maxHeartbeats 6400000
namespace Go.Proofs.YtjkdnaljkdnomaaGreatDoor
open Go.RowKit
theorem Gy{lo b k:Nat}{B:List Int}{today:Int}{w:World}(h:RdAt lo w b B k)(hB:ByOk B)(hlo:lo<=w.heap.size)(hbl:b<w.heap.size)(ht0:0<=today)(ht1:today<=1000000000){c0 c1 c2 c3 c4:Int}(hc:cmdAt B today k=⟨c0,c1,c2,c3,c4⟩):
  Calls Tryz.prog 19 #[(.pointer (some ⟨b,0,none⟩)),.int .i64 today] w λe w'=>e= .returned (.agg #[.int .i64 c0,.int .i64 c1,.int .i64 c2,.int .i64 c3,.int .i64 c4])/\RdAt lo w' b B (k+4)/\Keeps (λj=>j=b) w w':=by
 refine(Vu lo b k B today w h hB hlo hbl ht0 ht1).mono ?_;rintro e w' ⟨rfl,hr,hk⟩;exact⟨by rw [hc];rfl,hr,hk⟩
theorem Acv{lo b:Nat}{B:List Int}{w:World}(h:RdAt lo w b B 0)(hB:ByOk B)(hlo:lo<=w.heap.size)(hbl:b<w.heap.size){t0 t2 t3 t4 t5 t6:Int}(ht:∀v,(Bz B).cells v= #[.int .i64 t0,v,.int .i64 t2,.int .i64 t3,.int .i64 t4,.int .i64 t5,.int .i64 t6]):
  Calls Tryz.prog 18 #[(.pointer (some ⟨b,0,none⟩))] w λe w'=>∃v,e= .returned (.agg #[.int .i64 t0,v,.int .i64 t2,.int .i64 t3,.int .i64 t4,.int .i64 t5,.int .i64 t6])/\RdAt lo w' b B (scrO B+6)/\w'.ownsRow 0 39 2 v (scrN B) ((Co B (scrN B)).flatMap Tn.cells)/\(∀g,v.ownBlock=some g->w.heap.size<=g)/\Keeps (λj=>j=b) w w':=by
 refine(Aao lo b B w h hB hlo hbl).mono ?_;rintro e w' ⟨v,rfl,hr⟩;exact⟨v,by rw [ht],hr⟩
structure DS(w w':World)(B:List Int)(T:Nat)(v0 v:Value)(j k:Nat):Prop where
 rd:RdAt w.heap.size w' (w.heap.size+1) B k
 res:w'.heap[w.heap.size]?=some (.cells (zTm (.slice none 0 0)) 26 (0,0))
 blk:w'.heap[T]?=some (.cells ((Bz B).cells v0) 26 (0,0))
 trs:w'.ownsRow 0 39 2 v0 (scrN B) ((Co B (scrN B)).flatMap Tn.cells)
 row:w'.ownsRow 0 33 5 v j ((Bt B j).flatMap Cmd.cells)
 kp:K0 w w'
 new0:∀g,v0.ownBlock=some g->w.heap.size<=g
 new:∀g,v.ownBlock=some g->w.heap.size<=g
 tb:w.heap.size+1<T
section
variable {w w' w'':World} {B:List Int} {T:Nat} {v0 v v':Value} {j k:Nat}
theorem DS.rb(h:DS w w' B T v0 v j k):w.heap.size+1<w'.heap.size:=by have:=lt_of_block h.blk;have:=h.tb;omega
theorem DS.step(h:DS w w' B T v0 v j k)(hr:RdAt w.heap.size w'' (w.heap.size+1) B (k+4))(hk:Keeps (λi=>i=w.heap.size+1) w' w''):DS w w'' B T v0 v j (k+4):=by
 obtain⟨ad,c,hb,_⟩:=h.rd.ex;have ht:=h.tb;refine⟨hr,Ad h.res hk j6,Ad h.blk hk j6,hk.row h.trs (λg hg e=> ?_),hk.row h.row (λg hg e=> ?_),h.kp.trans (hk.mono λi _ hi=>by right;omega),h.new0,h.new,h.tb⟩
 ·subst e;exact Ah h.trs hb j7 hg
 ·subst e;exact Ah h.row hb j7 hg
theorem DS.keep(h:DS w w' B T v0 v j k)(hk:K0 w' w''):DS w w'' B T v0 v j k:=
 ⟨h.rd.keeps hk (by simp),Ad h.res hk (by simp),Ad h.blk hk (by simp),hk.row h.trs (by simp),hk.row h.row (by simp),h.kp.trans (hk.mono (by simp)),h.new0,h.new,h.tb⟩
theorem DS.app{c:Cmd}(h:DS w w' B T v0 v j k)(ho:w''.ownsRow 0 33 5 v' (j+1) ((Bt B j).flatMap Cmd.cells++c.cells))(hc:Bt B (j+1)=Bt B j++ [c])(hk:Keeps (λi=>v.ownBlock=some i) w' w'')(hf:v'.ownBlock=v.ownBlock\/∃g,v'.ownBlock=some g/\w'.heap.size<=g):DS w w'' B T v0 v' (j+1) k:=by
 have hs:=h.kp.size;obtain⟨ad,c',hb,_⟩:=h.rd.ex;refine⟨h.rd.keeps hk (λi hi=>⟨h.new i hi,λe=> ?_⟩),Ad h.res hk (Ah h.row h.res j7),Ad h.blk hk (Ah h.row h.blk j7),hk.row h.trs (λg hg e=> ?_), ?_,h.kp.trans (hk.mono λi _ hi=> .inr (h.new i hi)),h.new0,λg hg=> ?_,h.tb⟩
 ·subst e;exact Ah h.row hb j7 hi
 ·exact j4x
 ·rw [hc,List.flatMap_append];simpa using ho
 ·exact j2a
end
def Pm(i:Nat)(a':Act):Nat:=match a'.tmps.getD i undef with| .slice _ n _=>n|_=>0
def decJ(w:World)(B:List Int)(a':Act)(w':World):Prop:=∃(T:Nat) (v0:Value) (j:Nat) (v:Value) (u0 u1 u3 u8 u9 u10 u11 u12 u13 u14 u15 u16 u17 u18 u19 u20 u21 u22 u23 u24 u25 u26 u27 u28 u29 u30 u31 u32 u33 u34 u35 u36 u37 u38 u39 u40 u41 u42:Value),
 a'={ tmps:= #[u0,u1,(.pointer (some ⟨w.heap.size,0,none⟩)),u3,v,(.pointer (some ⟨w.heap.size+1,0,none⟩)),(.pointer (some ⟨T,0,none⟩)),.int .i64 (Bq B j),u8,u9,u10,u11,u12,u13,u14,u15,u16,u17,u18,u19,u20,u21,u22,u23,u24,u25,u26,u27,u28,u29,u30,u31,u32,u33,u34,u35,u36,u37,u38,u39,u40,u41,u42],defers:= [] }/\DS w w' B T v0 v j (scrO B+6+4*j)/\j<=scrM B
def Jo(w:World)(B:List Int)(e:Ending)(w':World):Prop:=
 ∃v0 v,e= .returned (.tuple #[.agg ((Bz B).cells v0),v])/\w'.ownsRow 0 39 2 v0 (scrN B) ((Co B (scrN B)).flatMap Tn.cells)/\w'.ownsRow 0 33 5 v (scrM B) ((Bt B (scrM B)).flatMap Cmd.cells)/\K0 w w'/\(∀g,v0.ownBlock=some g->w.heap.size<=g)/\(∀g,v.ownBlock=some g->w.heap.size<=g)
theorem dec_end{w w':World}{B:List Int}{T:Nat}{v0 v:Value}{j k:Nat}(h:DS w w' B T v0 v j k)(hj:j=scrM B){t0 t2 t3 t4 t5 t6:Int}(ht:(Bz B).cells v0= #[.int .i64 t0,v0,.int .i64 t2,.int .i64 t3,.int .i64 t4,.int .i64 t5,.int .i64 t6])(u0 u1 u2 u3 u4 u5 u6:Value):
  Jo w B (.returned (.tuple #[.agg #[.int .i64 t0,v0,.int .i64 t2,.int .i64 t3,.int .i64 t4,.int .i64 t5,.int .i64 t6],v])) (((((((w'.setCell ⟨w.heap.size,0,none⟩ u0).setCell ⟨w.heap.size,1,none⟩ u1).setCell ⟨w.heap.size,2,none⟩ u2).setCell ⟨w.heap.size,3,none⟩ u3).setCell ⟨w.heap.size,4,none⟩ u4).setCell ⟨w.heap.size,5,none⟩ u5).setCell ⟨w.heap.size,6,none⟩ u6):=by
 exact j4y
theorem Nk (B : List Int) (ad : Option Addr) (cap : Nat) (w : World) (hr : Reads w 1 (.slice ad B.length cap) B.length (B.flatMap u8c)) (hB : ByOk B) :
    Calls Tryz.prog 7 #[.slice ad B.length cap] w (Jo w B) := by
  obtain ⟨i0, hi, hi0, hi1, hi2⟩ := info_parts Xk
  have hrd : RdAt w.heap.size ((w.alloc (.cells (zTm (.slice none 0 0)) 26)).alloc (.cells #[.slice ad B.length cap] 75)) (w.heap.size + 1) B 0 := by
    have := heap_alloc_new (w.alloc (.cells (zTm (.slice none 0 0)) 26)) (.cells #[.slice ad B.length cap] 75)
    refine ⟨⟨ad, cap, by simpa using this, (hr.alloc _).alloc _, fun hl g hg => ?_⟩, by omega⟩
    obtain ⟨g', hg', hl'⟩ := hr.lt (by intro h0; have := Cs Fq B; rw [h0] at this; simp at this; omega)
    simp only [Nat.sub_zero] at hg; rw [hg'] at hg; simp only [Option.some.injEq] at hg; omega
  have hz := heap_alloc_new w (.cells (zTm (.slice none 0 0)) 26)
  have hz' := Ap hz (.cells #[.slice ad B.length cap] 75)
  obtain ⟨t0, t2, t3, t4, t5, ht⟩ : ∃ t0 t2 t3 t4 t5 : Int, ∀ v, (Bz B).cells v = #[.int .i64 t0, v, .int .i64 t2, .int .i64 t3, .int .i64 t4, .int .i64 t5, .int .i64 (Bq B 0)] := ⟨_, _, _, _, _, fun v => rfl⟩
  clear hr; obtain ⟨HB, Hrd⟩ := hid2 hB hrd; clear hrd hB hz; obtain ⟨Hz', Ht⟩ := hid2 hz' ht; clear ht hz'
  go_enter Tryz.func7, Tryz.ntmps7
  go_wp2
  refine wp_scope_jumps 0 (decJ w B) (fun a' _ => 200 - Pm 4 a') rfl ?_ ?_
  · go_wp2_with (go_at_call 18; refine (Acv Hrd.o HB.o (by simp; omega) (by simp) Ht.o).mono ?_; rintro e w1 ⟨v0, rfl, hr1, ho1, hn1, hk1⟩; obtain ⟨ad0', c0', rfl, _, _⟩ := Ae ho1; have Hr1 := Lib.hid hr1; have Ho1 := Lib.hid ho1; have Hn1 := Lib.hid hn1; have Hk1 := Lib.hid hk1; clear hr1 ho1 hn1 hk1)
    have hds : DS w (w1.alloc (.cells #[.int .i64 t0, .slice ad0' (scrN B) c0', .int .i64 t2, .int .i64 t3, .int .i64 t4, .int .i64 t5, .int .i64 (Bq B 0)] 26)) B w1.heap.size (.slice ad0' (scrN B) c0') (.slice none 0 0) 0 (scrO B + 6 + 4 * 0) := by
      have hk : Keeps (fun _ => False) w w1 := ((Keeps.alloc w _).trans (Keeps.alloc _ _)).trans (Hk1.o.mono fun i _ hi => by subst hi; exact .inr (by omega))
      have hl := lt_of_block (Ad Hz'.o Hk1.o (by omega))
      have hnew : (w1.alloc (.cells #[.int .i64 t0, .slice ad0' (scrN B) c0', .int .i64 t2, .int .i64 t3, .int .i64 t4, .int .i64 t5, .int .i64 (Bq B 0)] 26)).heap[w1.heap.size]? = some (.cells ((Bz B).cells (.slice ad0' (scrN B) c0')) 26 (0, 0)) := by
        rw [Ht.o]; exact heap_alloc_new _ _
      refine ⟨Hr1.o.keeps (Keeps.alloc (S := fun _ => False) _ _) (by simp), Ap (Ad Hz'.o Hk1.o (by omega)) _, hnew, Ho1.o.alloc _, World.ownsRow_nil _ _ _ _, hk.trans (Keeps.alloc _ _), fun g hg => ?_, by simp [Value.ownBlock], ?_⟩
      · have := Hn1.o g hg; simp at this; omega
      · obtain ⟨⟨_, _, hb, _⟩, _⟩ := Hr1.o; exact lt_of_block hb
    have hj200 : 0 ≤ scrM B := Nat.zero_le _
    have hcc : 0 ≤ 0 := Nat.le_refl 0
    obtain ⟨T, hT⟩ : ∃ T, T = w1.heap.size := ⟨_, rfl⟩
    obtain ⟨wr, hwr⟩ : ∃ wr, wr = w1.alloc (.cells #[.int .i64 t0, .slice ad0' (scrN B) c0', .int .i64 t2, .int .i64 t3, .int .i64 t4, .int .i64 t5, .int .i64 (Bq B 0)] 26) := ⟨_, rfl⟩
    rw [← hwr, ← hT] at hds ⊢
    clear hwr hT
    generalize Value.slice ad0' (scrN B) c0' = v0 at hds ⊢
    go_step3
    obtain ⟨adt, ct, rfl, _, _⟩ := Ae hds.trs
    have hrb := hds.rb
    obtain ⟨adr, cr, hrb1, _⟩ := hds.rd.ex
    have x0 : (wr).cell? ⟨w.heap.size + 1, 0, none⟩ = some (.slice adr (B.length - (scrO B + 6 + 4 * 0)) cr) := Aa hrb1 0
    have hday := Qu HB.o 0
    obtain ⟨day, hdayE⟩ : ∃ day, Bq B 0 = day := ⟨_, rfl⟩
    rw [hdayE] at hday ⊢
    obtain ⟨hd0, hd1⟩ := hday
    obtain ⟨nl, hnl⟩ : ∃ nl, B.length - (scrO B + 6 + 4 * 0) = nl := ⟨_, rfl⟩
    rw [hnl] at x0
    have hnb : (nl : Int) ≤ 1000000000000 := by have := HB.o.2; omega
    have Hnl := Lib.hid hnl
    have HdayE := Lib.hid hdayE
    have Hds := Lib.hid hds
    clear hrb1 hnl hdayE hds
    by_cases hgo : 0 < nl ∧ 0 < 200
    · obtain ⟨hn0, hj2⟩ := hgo
      obtain ⟨q0, q1, q2, q3, q4, hq⟩ : ∃ q0 q1 q2 q3 q4, cmdAt B day (scrO B + 6 + 4 * 0) = ⟨q0, q1, q2, q3, q4⟩ := ⟨_, _, _, _, _, rfl⟩
      have htk := Qp HB.o day (scrO B + 6 + 4 * 0)
      rw [hq] at htk
      have hc1 : Bt B (0 + 1) = Bt B 0 ++ [⟨q0, q1, q2, q3, q4⟩] := by
        show Bt B 0 ++ [cmdAt B (Bq B 0) (scrO B + 6 + 4 * 0)] = _
        rw [HdayE.o, hq]
      have hsd : Bq B (0 + 1) = day + Cn ⟨q0, q1, q2, q3, q4⟩ := by
        show Bq B 0 + Cn (cmdAt B (Bq B 0) (scrO B + 6 + 4 * 0)) = _
        rw [HdayE.o, hq]
      obtain ⟨Hq, Hc1⟩ := hid2 hq hc1; clear hc1 hq
      by_cases hk8 : q0 = 8
      · have hq1 : Cn ⟨q0, q1, q2, q3, q4⟩ = q1 := by unfold Cn; rw [if_pos hk8]
        rw [hq1] at htk hsd
        obtain ⟨ht0, ht1⟩ := htk
        have Hsd := Lib.hid hsd; clear hsd hq1
        subst hk8
        go_wp2_with fail
        refine (Gy Hds.o.rd HB.o (by omega) (by omega) (by omega) (by omega) Hq.o).mono ?_
        rintro e w2 ⟨rfl, hr, hk⟩
        have Hds2 := Lib.hid (Hds.o.step hr hk)
        clear hr hk
        go_wp2_with (at_builtin; refine Am rfl (.tmp 37) (.tmp 39) 27 rfl 0 33 i0 _ 5 40 Tryz.underlying27 hi hi0 hi1 hi2 rfl (by decide) (.slice none 0 0) 0 _ rfl ((Hds2.o.row.alloc _).alloc _) _ 1 [.int .i64 8, .int .i64 q1, .int .i64 q2, .int .i64 q3, .int .i64 q4] rfl (Reads.litAt _ _ _ _ _ _ (by simp) rfl) (by simp [Value.oneCell']) (by unfold maxLen; omega) (by omega) (by omega) ?_)
        intro v' w4 hown4 hk4 hf4
        have hds4 := (Hds2.o.keep ((Keeps.alloc _ _).trans (Keeps.alloc _ _))).app (c := ⟨8, q1, q2, q3, q4⟩) hown4 Hc1.o hk4 (by simpa using hf4)
        obtain ⟨ad4, c4, rfl, _, _⟩ := Ae hown4
        have Hds4 := Lib.hid hds4; clear hds4
        clear hown4 hk4 hf4
        go_wp2
        go_step3
        go_wp2
        first
          | (refine Av ⟨⟨_, _, 0 + 1, _, _, _, _, _, _, _, _, _, _, _, _, _, _, _, _, _, _, _, _, _, _, _, _, _, _, _, _, _, _, _, _, _, _, _, _, _, _, _, by rw [Hsd.o], by simpa [Nat.mul_add, Nat.add_assoc] using Hds4.o, by have := Hnl.o; unfold scrM; omega⟩, by simp [Pm]; omega⟩)
          | (refine Av ⟨_, _, 0 + 1, _, _, _, _, _, _, _, _, _, _, _, _, _, _, _, _, _, _, _, _, _, _, _, _, _, _, _, _, _, _, _, _, _, _, _, _, _, _, _, by rw [Hsd.o], by simpa [Nat.mul_add, Nat.add_assoc] using Hds4.o, by have := Hnl.o; unfold scrM; omega⟩)
      · have hq1 : Cn ⟨q0, q1, q2, q3, q4⟩ = 0 := by unfold Cn; rw [if_neg hk8]
        rw [hq1, Int.add_zero] at hsd
        have hk8' : (q0 == 8) = false := beq_eq_false_iff_ne.2 hk8
        clear htk
        have Hsd := Lib.hid hsd; clear hsd hq1
        go_wp2_with fail
        refine (Gy Hds.o.rd HB.o (by omega) (by omega) (by omega) (by omega) Hq.o).mono ?_
        rintro e w2 ⟨rfl, hr, hk⟩
        have Hds2 := Lib.hid (Hds.o.step hr hk)
        clear hr hk
        go_wp2_with (at_builtin; refine Am rfl (.tmp 37) (.tmp 39) 27 rfl 0 33 i0 _ 5 40 Tryz.underlying27 hi hi0 hi1 hi2 rfl (by decide) (.slice none 0 0) 0 _ rfl ((Hds2.o.row.alloc _).alloc _) _ 1 [.int .i64 q0, .int .i64 q1, .int .i64 q2, .int .i64 q3, .int .i64 q4] rfl (Reads.litAt _ _ _ _ _ _ (by simp) rfl) (by simp [Value.oneCell']) (by unfold maxLen; omega) (by omega) (by omega) ?_)
        intro v' w4 hown4 hk4 hf4
        have hds4 := (Hds2.o.keep ((Keeps.alloc _ _).trans (Keeps.alloc _ _))).app (c := ⟨q0, q1, q2, q3, q4⟩) hown4 Hc1.o hk4 (by simpa using hf4)
        obtain ⟨ad4, c4, rfl, _, _⟩ := Ae hown4
        have Hds4 := Lib.hid hds4; clear hds4
        clear hown4 hk4 hf4
        go_wp2
        go_step3
        go_wp2
        first
          | (refine Av ⟨⟨_, _, 0 + 1, _, _, _, _, _, _, _, _, _, _, _, _, _, _, _, _, _, _, _, _, _, _, _, _, _, _, _, _, _, _, _, _, _, _, _, _, _, _, _, by rw [Hsd.o], by simpa [Nat.mul_add, Nat.add_assoc] using Hds4.o, by have := Hnl.o; unfold scrM; omega⟩, by simp [Pm]; omega⟩)
          | (refine Av ⟨_, _, 0 + 1, _, _, _, _, _, _, _, _, _, _, _, _, _, _, _, _, _, _, _, _, _, _, _, _, _, _, _, _, _, _, _, _, _, _, _, _, _, _, _, by rw [Hsd.o], by simpa [Nat.mul_add, Nat.add_assoc] using Hds4.o, by have := Hnl.o; unfold scrM; omega⟩)
    · have hjM : 0 = scrM B := by have := Hnl.o; unfold scrM at hj200 ⊢; omega
      have hgo' : nl = 0 ∨ (0 < nl ∧ 200 ≤ 0) := by omega
      clear hgo
      have hblk := Hds.o.blk
      have hres := Hds.o.res
      obtain ⟨t0, t2, t3, t4, t5, t6, ht⟩ : ∃ t0 t2 t3 t4 t5 t6 : Int, (Bz B).cells (.slice adt (scrN B) ct) = #[.int .i64 t0, .slice adt (scrN B) ct, .int .i64 t2, .int .i64 t3, .int .i64 t4, .int .i64 t5, .int .i64 t6] := ⟨_, _, _, _, _, _, rfl⟩
      rw [ht] at hblk
      unfold zTm at hres
      have b0 := Aa hblk 0
      have b1 := Aa hblk 1
      have b2 := Aa hblk 2
      have b3 := Aa hblk 3
      have b4 := Aa hblk 4
      have b5 := Aa hblk 5
      have b6 := Aa hblk 6
      have r0 := Aa hres 0
      have r1 := Aa hres 1
      have r2 := Aa hres 2
      have r3 := Aa hres 3
      have r4 := Aa hres 4
      have r5 := Aa hres 5
      have r6 := Aa hres 6
      have rf := Ab hres
      have rl := lt_of_block hres
      have Hend := Lib.hid (dec_end Hds.o hjM ht)
      clear hblk hres ht hjM
      rcases hgo' with hgo' | ⟨hgo', hgo2⟩
      · subst hgo'
        go_wp2
        refine Bo ?_
        exact bodyPost_ret (v := .tuple #[.agg #[.int .i64 t0, .slice adt (scrN B) ct, .int .i64 t2, .int .i64 t3, .int .i64 t4, .int .i64 t5, .int .i64 t6], .slice none 0 0]) (by simp [results, Tryz.results7, go_sem, r0, r1, r2, r3, r4, r5, r6]) rfl (Hend.o _ _ _ _ _ _ _)
      · first
        | (exfalso; omega)
        | (skip
           go_wp2
           refine Bo ?_
           exact bodyPost_ret (v := .tuple #[.agg #[.int .i64 t0, .slice adt (scrN B) ct, .int .i64 t2, .int .i64 t3, .int .i64 t4, .int .i64 t5, .int .i64 t6], .slice none 0 0]) (by simp [results, Tryz.results7, go_sem, r0, r1, r2, r3, r4, r5, r6, rl]) rfl (Hend.o _ _ _ _ _ _ _))
  · rintro a' wr ⟨T, v0, j, v, u0, u1, u3, u8, u9, u10, u11, u12, u13, u14, u15, u16, u17, u18, u19, u20, u21, u22, u23, u24, u25, u26, u27, u28, u29, u30, u31, u32, u33, u34, u35, u36, u37, u38, u39, u40, u41, u42, rfl, hds, hj200⟩
    obtain ⟨ad0, c0, rfl, hcc, _⟩ := Ae hds.row
    obtain ⟨adt, ct, rfl, _, _⟩ := Ae hds.trs
    have hrb := hds.rb
    obtain ⟨adr, cr, hrb1, _⟩ := hds.rd.ex
    have x0 : (wr).cell? ⟨w.heap.size + 1, 0, none⟩ = some (.slice adr (B.length - (scrO B + 6 + 4 * j)) cr) := Aa hrb1 0
    have hday := Qu HB.o j
    obtain ⟨day, hdayE⟩ : ∃ day, Bq B j = day := ⟨_, rfl⟩
    rw [hdayE] at hday ⊢
    obtain ⟨hd0, hd1⟩ := hday
    obtain ⟨nl, hnl⟩ : ∃ nl, B.length - (scrO B + 6 + 4 * j) = nl := ⟨_, rfl⟩
    rw [hnl] at x0
    have hnb : (nl : Int) ≤ 1000000000000 := by have := HB.o.2; omega
    have Hnl := Lib.hid hnl
    have HdayE := Lib.hid hdayE
    have Hds := Lib.hid hds
    clear hrb1 hnl hdayE hds
    by_cases hgo : 0 < nl ∧ j < 200
    · obtain ⟨hn0, hj2⟩ := hgo
      obtain ⟨q0, q1, q2, q3, q4, hq⟩ : ∃ q0 q1 q2 q3 q4, cmdAt B day (scrO B + 6 + 4 * j) = ⟨q0, q1, q2, q3, q4⟩ := ⟨_, _, _, _, _, rfl⟩
      have htk := Qp HB.o day (scrO B + 6 + 4 * j)
      rw [hq] at htk
      have hc1 : Bt B (j + 1) = Bt B j ++ [⟨q0, q1, q2, q3, q4⟩] := by
        show Bt B j ++ [cmdAt B (Bq B j) (scrO B + 6 + 4 * j)] = _
        rw [HdayE.o, hq]
      have hsd : Bq B (j + 1) = day + Cn ⟨q0, q1, q2, q3, q4⟩ := by
        show Bq B j + Cn (cmdAt B (Bq B j) (scrO B + 6 + 4 * j)) = _
        rw [HdayE.o, hq]
      obtain ⟨Hq, Hc1⟩ := hid2 hq hc1; clear hc1 hq
      by_cases hk8 : q0 = 8
      · have hq1 : Cn ⟨q0, q1, q2, q3, q4⟩ = q1 := by unfold Cn; rw [if_pos hk8]
        rw [hq1] at htk hsd
        obtain ⟨ht0, ht1⟩ := htk
        have Hsd := Lib.hid hsd; clear hsd hq1
        subst hk8
        go_wp2_with fail
        refine (Gy Hds.o.rd HB.o (by omega) (by omega) (by omega) (by omega) Hq.o).mono ?_
        rintro e w2 ⟨rfl, hr, hk⟩
        have Hds2 := Lib.hid (Hds.o.step hr hk)
        clear hr hk
        go_wp2_with (at_builtin; refine Am rfl (.tmp 37) (.tmp 39) 27 rfl 0 33 i0 _ 5 40 Tryz.underlying27 hi hi0 hi1 hi2 rfl (by decide) (.slice ad0 j c0) j _ rfl ((Hds2.o.row.alloc _).alloc _) _ 1 [.int .i64 8, .int .i64 q1, .int .i64 q2, .int .i64 q3, .int .i64 q4] rfl (Reads.litAt _ _ _ _ _ _ (by simp) rfl) (by simp [Value.oneCell']) (by unfold maxLen; omega) (by omega) (by omega) ?_)
        intro v' w4 hown4 hk4 hf4
        have hds4 := (Hds2.o.keep ((Keeps.alloc _ _).trans (Keeps.alloc _ _))).app (c := ⟨8, q1, q2, q3, q4⟩) hown4 Hc1.o hk4 (by simpa using hf4)
        obtain ⟨ad4, c4, rfl, _, _⟩ := Ae hown4
        have Hds4 := Lib.hid hds4; clear hds4
        clear hown4 hk4 hf4
        go_wp2
        go_step3
        go_wp2
        first
          | (refine Av ⟨⟨_, _, j + 1, _, _, _, _, _, _, _, _, _, _, _, _, _, _, _, _, _, _, _, _, _, _, _, _, _, _, _, _, _, _, _, _, _, _, _, _, _, _, _, by rw [Hsd.o], by simpa [Nat.mul_add, Nat.add_assoc] using Hds4.o, by have := Hnl.o; unfold scrM; omega⟩, by simp [Pm]; omega⟩)
          | (refine Av ⟨_, _, j + 1, _, _, _, _, _, _, _, _, _, _, _, _, _, _, _, _, _, _, _, _, _, _, _, _, _, _, _, _, _, _, _, _, _, _, _, _, _, _, _, by rw [Hsd.o], by simpa [Nat.mul_add, Nat.add_assoc] using Hds4.o, by have := Hnl.o; unfold scrM; omega⟩)
      · have hq1 : Cn ⟨q0, q1, q2, q3, q4⟩ = 0 := by unfold Cn; rw [if_neg hk8]
        rw [hq1, Int.add_zero] at hsd
        have hk8' : (q0 == 8) = false := beq_eq_false_iff_ne.2 hk8
        clear htk
        have Hsd := Lib.hid hsd; clear hsd hq1
        go_wp2_with fail
        refine (Gy Hds.o.rd HB.o (by omega) (by omega) (by omega) (by omega) Hq.o).mono ?_
        rintro e w2 ⟨rfl, hr, hk⟩
        have Hds2 := Lib.hid (Hds.o.step hr hk)
        clear hr hk
        go_wp2_with (at_builtin; refine Am rfl (.tmp 37) (.tmp 39) 27 rfl 0 33 i0 _ 5 40 Tryz.underlying27 hi hi0 hi1 hi2 rfl (by decide) (.slice ad0 j c0) j _ rfl ((Hds2.o.row.alloc _).alloc _) _ 1 [.int .i64 q0, .int .i64 q1, .int .i64 q2, .int .i64 q3, .int .i64 q4] rfl (Reads.litAt _ _ _ _ _ _ (by simp) rfl) (by simp [Value.oneCell']) (by unfold maxLen; omega) (by omega) (by omega) ?_)
        intro v' w4 hown4 hk4 hf4
        have hds4 := (Hds2.o.keep ((Keeps.alloc _ _).trans (Keeps.alloc _ _))).app (c := ⟨q0, q1, q2, q3, q4⟩) hown4 Hc1.o hk4 (by simpa using hf4)
        obtain ⟨ad4, c4, rfl, _, _⟩ := Ae hown4
        have Hds4 := Lib.hid hds4; clear hds4
        clear hown4 hk4 hf4
        go_wp2
        go_step3
        go_wp2
        first
          | (refine Av ⟨⟨_, _, j + 1, _, _, _, _, _, _, _, _, _, _, _, _, _, _, _, _, _, _, _, _, _, _, _, _, _, _, _, _, _, _, _, _, _, _, _, _, _, _, _, by rw [Hsd.o], by simpa [Nat.mul_add, Nat.add_assoc] using Hds4.o, by have := Hnl.o; unfold scrM; omega⟩, by simp [Pm]; omega⟩)
          | (refine Av ⟨_, _, j + 1, _, _, _, _, _, _, _, _, _, _, _, _, _, _, _, _, _, _, _, _, _, _, _, _, _, _, _, _, _, _, _, _, _, _, _, _, _, _, _, by rw [Hsd.o], by simpa [Nat.mul_add, Nat.add_assoc] using Hds4.o, by have := Hnl.o; unfold scrM; omega⟩)
    · have hjM : j = scrM B := by have := Hnl.o; unfold scrM at hj200 ⊢; omega
      have hgo' : nl = 0 ∨ (0 < nl ∧ 200 ≤ j) := by omega
      clear hgo
      have hblk := Hds.o.blk
      have hres := Hds.o.res
      obtain ⟨t0, t2, t3, t4, t5, t6, ht⟩ : ∃ t0 t2 t3 t4 t5 t6 : Int, (Bz B).cells (.slice adt (scrN B) ct) = #[.int .i64 t0, .slice adt (scrN B) ct, .int .i64 t2, .int .i64 t3, .int .i64 t4, .int .i64 t5, .int .i64 t6] := ⟨_, _, _, _, _, _, rfl⟩
      rw [ht] at hblk
      unfold zTm at hres
      have b0 := Aa hblk 0
      have b1 := Aa hblk 1
      have b2 := Aa hblk 2
      have b3 := Aa hblk 3
      have b4 := Aa hblk 4
      have b5 := Aa hblk 5
      have b6 := Aa hblk 6
      have r0 := Aa hres 0
      have r1 := Aa hres 1
      have r2 := Aa hres 2
      have r3 := Aa hres 3
      have r4 := Aa hres 4
      have r5 := Aa hres 5
      have r6 := Aa hres 6
      have rf := Ab hres
      have rl := lt_of_block hres
      have Hend := Lib.hid (dec_end Hds.o hjM ht)
      clear hblk hres ht hjM
      rcases hgo' with hgo' | ⟨hgo', hgo2⟩
      · subst hgo'
        go_wp2
        refine Bo ?_
        exact bodyPost_ret (v := .tuple #[.agg #[.int .i64 t0, .slice adt (scrN B) ct, .int .i64 t2, .int .i64 t3, .int .i64 t4, .int .i64 t5, .int .i64 t6], .slice ad0 j c0]) (by simp [results, Tryz.results7, go_sem, r0, r1, r2, r3, r4, r5, r6]) rfl (Hend.o _ _ _ _ _ _ _)
      · first
        | (exfalso; omega)
        | (skip
           go_wp2
           refine Bo ?_
           exact bodyPost_ret (v := .tuple #[.agg #[.int .i64 t0, .slice adt (scrN B) ct, .int .i64 t2, .int .i64 t3, .int .i64 t4, .int .i64 t5, .int .i64 t6], .slice ad0 j c0]) (by simp [results, Tryz.results7, go_sem, r0, r1, r2, r3, r4, r5, r6]) rfl (Hend.o _ _ _ _ _ _ _))
structure RS(w w':World)(bv:Value)(B:List Int)(C:Array Value)(v:Value)(L:List Tn)(k:Nat):Prop where
 rd:RRdAt w.heap.size w' (w.heap.size+1) bv B k
 res:w'.heap[w.heap.size]?=some (.cells (zTm (.slice none 0 0)) 26 (0,0))
 blk:w'.heap[w.heap.size+2]?=some (.cells C 26 (0,0))
 row:w'.ownsRow 0 39 2 v L.length (L.flatMap Tn.cells)
 new:∀g,v.ownBlock=some g->w.heap.size<=g
 kp:K0 w w'
section
variable {w w' w'':World} {bv:Value} {B:List Int} {C:Array Value} {v v':Value} {L:List Tn} {k:Nat}
theorem RS.num(h:RS w w' bv B C v L k)(hr:RRdAt w.heap.size w'' (w.heap.size+1) bv B (k+1))(hk:Keeps (λj=>j=w.heap.size+1) w' w''):RS w w'' bv B C v L (k+1):=
 ⟨hr,Ad h.res hk (by omega),Ad h.blk hk (by omega),hk.row h.row (λg hg e=>by subst e;exact Ah h.row h.rd.blk (by decide) hg),h.new,h.kp.trans (hk.mono λ_ _ e=>by right;omega)⟩
theorem RS.keep{S:Nat->Prop}(h:RS w w' bv B C v L k)(hk:Keeps S w' w'')(hS:∀j,S j->w.heap.size+2<j/\v.ownBlock≠some j):RS w w'' bv B C v L k:=
 ⟨h.rd.keeps hk (λj hj=>by have:=(hS j hj).1;omega),Ad h.res hk (λhs=>by have:=(hS _ hs).1;omega),Ad h.blk hk (λhs=>by have:=(hS _ hs).1;omega),hk.row h.row (λg hg e=>(hS g e).2 hg),h.new,h.kp.trans (hk.mono λj _ hj=>by have:=(hS j hj).1;right;omega)⟩
theorem RS.set(h:RS w w' bv B C v L k)(i:Nat)(x:Value)(hi:(w'.setCell ⟨w.heap.size+2,i,none⟩ x).heap[w.heap.size+2]?=some (.cells (C.setIfInBounds i x) 26 (0,0))):RS w (w'.setCell ⟨w.heap.size+2,i,none⟩ x) bv B (C.setIfInBounds i x) v L k:=by
 have hk:Keeps (λj=>j=w.heap.size+2) w' (w'.setCell ⟨w.heap.size+2,i,none⟩ x):=Keeps.setCell _ _ _ rfl;exact⟨h.rd.keeps hk (λj hj=>by omega),Ad h.res hk j6,hi,ownsRow_setCell_other h.row (Ah h.row h.blk j7) _,h.new,h.kp.trans (hk.mono λj _ hj=>by right;omega)⟩
theorem RS.app{x:Tn}{L':List Tn}{C':Array Value}{cap' n':Nat}{ad':Option Addr}(h:RS w w' bv B C v L k)(ho:w''.ownsRow 0 39 2 (.slice ad' n' cap') (L.length+1) (L.flatMap Tn.cells++x.cells))(hL:L'=L++ [x])(hk:Keeps (λi=>v.ownBlock=some i) w' w'')(hf:(Value.slice ad' n' cap').ownBlock=v.ownBlock\/∃g,(Value.slice ad' n' cap').ownBlock=some g/\w'.heap.size<=g)
  (hC:C'=C.setIfInBounds 1 (.slice ad' n' cap')):
  (∀j,w''.cell? ⟨w.heap.size+2,j,none⟩=C[j]?)/\(∀j,w''.frozen? ⟨w.heap.size+2,j,none⟩=false)/\w.heap.size+2<w''.heap.size/\RS w (w''.setCell ⟨w.heap.size+2,1,none⟩ (.slice ad' n' cap')) bv B C' (.slice ad' n' cap') L' k:=by
 have hs:=h.kp.size;have hb:=Ad h.blk hk (Ah h.row h.blk j7);subst hL;subst hC
 have hmid:RS w w'' bv B C (.slice ad' n' cap') (L++ [x]) k:=by
  refine⟨h.rd.keeps hk (λi hi=>⟨h.new i hi,λe=> ?_⟩),Ad h.res hk (Ah h.row h.res j7),hb, ?_,λg hg=> ?_,h.kp.trans (hk.mono λi _ hi=> .inr (h.new i hi))⟩
  ·subst e;exact Ah h.row h.rd.blk j7 hi
  ·rw [List.flatMap_append];simpa using ho
  ·exact j2a
 exact⟨λj=>Aa hb j,λj=>Ab hb j,lt_of_block hb,hmid.set 1 _ (heap_setCell_same _ _ 1 _ _ _ hb)⟩
end
structure RD(w w':World)(bv:Value)(B:List Int)(v0 v:Value)(j k:Nat):Prop where
 rd:RRdAt w.heap.size w' (w.heap.size+1) bv B k
 res:w'.heap[w.heap.size]?=some (.cells (zTm (.slice none 0 0)) 26 (0,0))
 blk:w'.heap[w.heap.size+2]?=some (.cells ((Bz B).cells v0) 26 (0,0))
 trs:w'.ownsRow 0 39 2 v0 (scrN B) ((Co B (scrN B)).flatMap Tn.cells)
 row:w'.ownsRow 0 33 5 v j ((Bt B j).flatMap Cmd.cells)
 kp:K0 w w'
 new0:∀g,v0.ownBlock=some g->w.heap.size<=g
 new:∀g,v.ownBlock=some g->w.heap.size<=g
section
variable {w w' w'':World} {bv:Value} {B:List Int} {v0 v v':Value} {j k:Nat}
theorem RD.num(h:RD w w' bv B v0 v j k)(hr:RRdAt w.heap.size w'' (w.heap.size+1) bv B (k+1))(hk:Keeps (λi=>i=w.heap.size+1) w' w''):RD w w'' bv B v0 v j (k+1):=by
 refine⟨hr,Ad h.res hk j6,Ad h.blk hk j6,hk.row h.trs (λg hg e=> ?_),hk.row h.row (λg hg e=> ?_),h.kp.trans (hk.mono λi _ hi=>by right;omega),h.new0,h.new⟩
 ·subst e;exact Ah h.trs h.rd.blk j7 hg
 ·subst e;exact Ah h.row h.rd.blk j7 hg
theorem RD.keep(h:RD w w' bv B v0 v j k)(hk:K0 w' w''):RD w w'' bv B v0 v j k:=
 ⟨h.rd.keeps hk (by simp),Ad h.res hk (by simp),Ad h.blk hk (by simp),hk.row h.trs (by simp),hk.row h.row (by simp),h.kp.trans (hk.mono (by simp)),h.new0,h.new⟩
theorem RD.app{c:Cmd}(h:RD w w' bv B v0 v j k)(ho:w''.ownsRow 0 33 5 v' (j+1) ((Bt B j).flatMap Cmd.cells++c.cells))(hc:Bt B (j+1)=Bt B j++ [c])(hk:Keeps (λi=>v.ownBlock=some i) w' w'')(hf:v'.ownBlock=v.ownBlock\/∃g,v'.ownBlock=some g/\w'.heap.size<=g):RD w w'' bv B v0 v' (j+1) k:=by
 have hs:=h.kp.size;refine⟨h.rd.keeps hk (λi hi=>⟨h.new i hi,λe=> ?_⟩),Ad h.res hk (Ah h.row h.res j7),Ad h.blk hk (Ah h.row h.blk j7),hk.row h.trs (λg hg e=> ?_), ?_,h.kp.trans (hk.mono λi _ hi=> .inr (h.new i hi)),h.new0,λg hg=> ?_⟩
 ·subst e;exact Ah h.row h.rd.blk j7 hi
 ·exact j4x
 ·rw [hc,List.flatMap_append];simpa using ho
 ·exact j2a
end
theorem rdec_end{w w':World}{bv:Value}{B:List Int}{v0 v:Value}{j k:Nat}(h:RD w w' bv B v0 v j k)(hj:j=scrM B){t0 t2 t3 t4 t5 t6:Int}(ht:(Bz B).cells v0= #[.int .i64 t0,v0,.int .i64 t2,.int .i64 t3,.int .i64 t4,.int .i64 t5,.int .i64 t6])(u0 u1 u2 u3 u4 u5 u6:Value):
  Jo w B (.returned (.tuple #[.agg #[.int .i64 t0,v0,.int .i64 t2,.int .i64 t3,.int .i64 t4,.int .i64 t5,.int .i64 t6],v])) (((((((w'.setCell ⟨w.heap.size,0,none⟩ u0).setCell ⟨w.heap.size,1,none⟩ u1).setCell ⟨w.heap.size,2,none⟩ u2).setCell ⟨w.heap.size,3,none⟩ u3).setCell ⟨w.heap.size,4,none⟩ u4).setCell ⟨w.heap.size,5,none⟩ u5).setCell ⟨w.heap.size,6,none⟩ u6):=by
 exact j4y
def lenOf(x:Value):Nat:=match x with| .slice _ n _=>n|_=>0
theorem Tz(B:List Int)(ad:Option Addr)(cap:Nat)(w:World)(hr:Reads w 1 (.slice ad B.length cap) B.length (B.flatMap u8c))(hB:ByOk B):
  Calls Tryz.prog 5 #[.slice ad B.length cap] w (Jo w B):=by
 obtain⟨i0,hi,hi0,hi1,hi2⟩:=info_parts Qb;obtain⟨i1,ij,ij0,ij1,ij2⟩:=info_parts Xk;obtain⟨bv,hbv⟩:=eY (Value.slice ad B.length cap)
 have hrs:RS w (((w.alloc (.cells (zTm (.slice none 0 0)) 26)).alloc (.cells #[.slice ad B.length cap,.int .i64 0] 36)).alloc (.cells (zTm (.slice none 0 0)) 26)) bv B (zTm (.slice none 0 0)) (.slice none 0 0) [] 0:=by
  subst hbv;have b0:=heap_alloc_new w (.cells (zTm (.slice none 0 0)) 26);have b1:=heap_alloc_new (w.alloc (.cells (zTm (.slice none 0 0)) 26)) (.cells #[.slice ad B.length cap,.int .i64 0] 36);have b2:=heap_alloc_new ((w.alloc (.cells (zTm (.slice none 0 0)) 26)).alloc (.cells #[.slice ad B.length cap,.int .i64 0] 36)) (.cells (zTm (.slice none 0 0)) 26);refine⟨⟨by simpa using Ap b1 _,((hr.alloc _).alloc _).alloc _,λhl g hg=> ?_,by omega⟩,Ap (Ap b0 _) _,by simpa using b2,World.ownsRow_nil _ _ _ _,by simp [Value.ownBlock],((Keeps.alloc w _).trans (Keeps.alloc _ _)).trans (Keeps.alloc _ _)⟩;obtain⟨g',hg',hl'⟩:=hr.lt (by intro h0;have:=Cs Fq B;rw [h0] at this;simp at this;omega);exact j1f
 have hlen:=hB.2;have hN:=Te hB;obtain⟨N,hNe⟩:=eY (scrN B);obtain⟨z0,hz0,hz0a,hz0b⟩:=Ed hB 0;have hNi:(N:Int)=z0 % 3+1:=by have:=Mk hB 0;rw [hNe,<-hz0];unfold scrN;omega
 rw [<-hNe] at hN;obtain⟨hN1,hN3⟩:=hN;clear hr;obtain⟨HB,Hrs,HNe,HNi,Hz0⟩:=hid5 hB hrs hNe hNi hz0;clear hz0 hNi hNe hrs hB hbv;go_enter Tryz.func5,Tryz.ntmps5;go_wp2_with fail;refine(Eb Hrs.o.rd HB.o Hz0.o).mono ?_;rintro e w1 ⟨rfl,hr,hk⟩;have Hrs1:=Lib.hid (Hrs.o.num hr hk);clear hr hk;go_wp2
 go_loopw [7] (λc wr=>∃(i:Nat) (v:Value),i<=N/\c= .int .i64 (i:Nat)/\RS w wr bv B (zTm v) v (Co B i) (1+2*i)) (λc _=>N-(intOf c).toNat)
 case atStart=>exact⟨0,_,Nat.zero_le _,rfl,Hrs1.o⟩
 case round=>
  obtain⟨i,v,hiN,rfl,hrs⟩:=hrel;have hsh:=Ae hrs.row;rw [Cy] at hsh;obtain⟨adv,capv,rfl,hcv,_⟩:=hsh;have Hrs:=Lib.hid hrs;clear hrs;by_cases hiN1:i<N
  ·obtain⟨z,hz,hza,hzb⟩:=Ed HB.o (1+2*i);obtain⟨y,hy,hya,hyb⟩:=Ed HB.o (1+2*i+1);have hstr:Co B (i+1)=Co B i++ [⟨z*10000,y % 2==1⟩]:=by rw [Co,scrTr,hz,hy]
   have hiz:(i:Int)<z0 % 3+1:=by have:=HNi.o;omega
   obtain⟨Hz,Hy,Hstr⟩:=hid3 hz hy hstr;clear hstr hy hz;go_wp2_with fail;refine(Eb Hrs.o.rd HB.o Hz.o).mono ?_;rintro e w2 ⟨rfl,hr,hk⟩;have Hrs2:=Lib.hid (Hrs.o.num hr hk);have hsz2:=hk.size;clear hr hk;go_wp2_with fail;have Hrs2a:=Lib.hid (Hrs2.o.keep (S:=λ_=>False) (Keeps.alloc w2 (.cells #[.int .i64 (z*10000),.bool false] 39)) (by simp));refine(Eb Hrs2a.o.rd HB.o Hy.o).mono ?_;rintro e w3 ⟨rfl,hr,hk⟩;have Hrs3:=Lib.hid (Hrs2a.o.num hr hk);have hlt:=lt_of_block Hrs2.o.blk;have hx:=Nc hk j6;have xo:=Aa hx;have xf:=Ab hx;have xo0:=xo 0;have xo1:=xo 1;have xf1:=xf 1;have ho:=Hrs3.o.blk;have tc1:w3.cell? ⟨w.heap.size+2,1,none⟩=some (.slice adv i capv):=Aa ho 1;have hvx:(Value.slice adv i capv).ownBlock≠some w2.heap.size:=λe=>by have:=(Hrs.o.row.lt _ e).2;omega
   have hrs4:=Hrs3.o.keep j4w (λj hj=>by subst hj;exact⟨by omega,hvx⟩);have hrow4:=hrs4.row;rw [Cy] at hrow4;have Hrs4:=Lib.hid hrs4;have Hrow4:=Lib.hid hrow4;clear xo xf hr hk hx ho hrs4 hrow4
   go_wp2_with (at_builtin;refine Am rfl (.tmp 40) (.tmp 42) 24 rfl 0 39 i0 _ 2 16 Tryz.underlying24 hi hi0 hi1 hi2 rfl j7 (.slice adv i capv) i _ rfl (Hrow4.o.alloc _) _ 1 [.int .i64 (z*10000),.bool (y % 2==1)] rfl (Reads.litAt _ _ _ _ _ _ (by simp) rfl) jf jd j6 j6 ?_)
   intro v' w4 hown4 hk4 hf4;obtain⟨adv',capv',rfl,hcv',_⟩:=Ae hown4;obtain⟨tc,tf,htl5,hrs5⟩:=(Hrs4.o.keep (S:=λ_=>False) (Keeps.alloc _ _) (by simp)).app (x:=⟨z*10000,y % 2==1⟩) (L':=Co B (i+1)) (C':=zTm (.slice adv' (i+1) capv')) (by rw [Cy];exact hown4) Hstr.o hk4 (by simpa [World.setCell] using hf4) rfl;have tc5:w4.cell? ⟨w.heap.size+2,1,none⟩=some (.slice adv i capv):=tc 1;have tf5:=tf 1;have Hrs5:=Lib.hid hrs5;clear hrs5;clear hown4 hk4 hf4 tc tf;go_wp2;go_roundw
   case rel=>exact⟨i+1,_,by omega,by go_num,Hrs5.o⟩
   case measure=>simp [intOf];omega
  ·obtain rfl:N=i:=by omega
   have hiz:¬(N:Int)<z0 % 3+1:=by have:=HNi.o;omega
   clear hiN1 hcv;have hoo:1+2*N=scrO B:=by unfold scrO;rw [<-HNe.o]
   obtain⟨y0,hy0,hy0a,hy0b⟩:=Ed HB.o (1+2*N);obtain⟨y1,hy1,hy1a,hy1b⟩:=Ed HB.o (1+2*N+1);obtain⟨y2,hy2,hy2a,hy2b⟩:=Ed HB.o (1+2*N+2);obtain⟨y3,hy3,hy3a,hy3b⟩:=Ed HB.o (1+2*N+3);obtain⟨y4,hy4,hy4a,hy4b⟩:=Ed HB.o (1+2*N+4);obtain⟨y5,hy5,hy5a,hy5b⟩:=Ed HB.o (1+2*N+5)
   have hterms:Bz B=⟨y2*1000,y0 % 28+1,y1 % 25+1,y3,y4 % 100,10957+y5,Co B N⟩:=by
    unfold Bz;rw [<-hoo,<-HNe.o,hy0,hy1,hy2,hy3,hy4,hy5]
   have hday0:Bq B 0=10957+y5:=by rw [Bq,<-hoo,hy5]
   obtain⟨Hoo,Hy0,Hy1,Hy2,Hy3,Hy4,Hy5,Hterms,Hday0⟩:=hid9 hoo hy0 hy1 hy2 hy3 hy4 hy5 hterms hday0;clear hday0 hterms hy5 hy4 hy3 hy2 hy1 hy0 hoo;go_wp2_with fail;refine(Eb Hrs.o.rd HB.o Hy0.o).mono ?_;rintro e q0 ⟨rfl,hr,hk⟩;have Hq0a:=Hrs.o.num hr hk;have q0o:=Aa Hq0a.blk 2;have q0f:=Ab Hq0a.blk 2;have q0k:RS w (q0.setCell ⟨w.heap.size+2,2,none⟩ (.int .i64 (y0 % 28+1))) bv B #[.int .i64 0,.slice adv N capv,.int .i64 (y0 % 28+1),.int .i64 0,.int .i64 0,.int .i64 0,.int .i64 0] (.slice adv N capv) (Co B N) ((1+2*N)+1):=RS.set Hq0a 2 _ (heap_setCell_same _ _ 2 _ _ _ Hq0a.blk);have Hq0:=Lib.hid q0k;clear hr hk Hq0a q0k;go_wp2_with fail;refine(Eb Hq0.o.rd HB.o Hy1.o).mono ?_;rintro e q1 ⟨rfl,hr,hk⟩;have Hq1a:=Hq0.o.num hr hk;have q1o:=Aa Hq1a.blk 3;have q1f:=Ab Hq1a.blk 3;have q1k:RS w (q1.setCell ⟨w.heap.size+2,3,none⟩ (.int .i64 (y1 % 25+1))) bv B #[.int .i64 0,.slice adv N capv,.int .i64 (y0 % 28+1),.int .i64 (y1 % 25+1),.int .i64 0,.int .i64 0,.int .i64 0] (.slice adv N capv) (Co B N) ((1+2*N+1)+1):=RS.set Hq1a 3 _ (heap_setCell_same _ _ 3 _ _ _ Hq1a.blk);have Hq1:=Lib.hid q1k;clear hr hk Hq1a q1k;go_wp2_with fail;refine(Eb Hq1.o.rd HB.o Hy2.o).mono ?_;rintro e q2 ⟨rfl,hr,hk⟩;have Hq2a:=Hq1.o.num hr hk;have q2o:=Aa Hq2a.blk 0;have q2f:=Ab Hq2a.blk 0;have q2k:RS w (q2.setCell ⟨w.heap.size+2,0,none⟩ (.int .i64 (y2*1000))) bv B #[.int .i64 (y2*1000),.slice adv N capv,.int .i64 (y0 % 28+1),.int .i64 (y1 % 25+1),.int .i64 0,.int .i64 0,.int .i64 0] (.slice adv N capv) (Co B N) ((1+2*N+2)+1):=RS.set Hq2a 0 _ (heap_setCell_same _ _ 0 _ _ _ Hq2a.blk);have Hq2:=Lib.hid q2k;clear hr hk Hq2a q2k;go_wp2_with fail;refine(Eb Hq2.o.rd HB.o Hy3.o).mono ?_;rintro e q3 ⟨rfl,hr,hk⟩;have Hq3a:=Hq2.o.num hr hk;have q3o:=Aa Hq3a.blk 4;have q3f:=Ab Hq3a.blk 4;have q3k:RS w (q3.setCell ⟨w.heap.size+2,4,none⟩ (.int .i64 y3)) bv B #[.int .i64 (y2*1000),.slice adv N capv,.int .i64 (y0 % 28+1),.int .i64 (y1 % 25+1),.int .i64 y3,.int .i64 0,.int .i64 0] (.slice adv N capv) (Co B N) ((1+2*N+3)+1):=RS.set Hq3a 4 _ (heap_setCell_same _ _ 4 _ _ _ Hq3a.blk);have Hq3:=Lib.hid q3k;clear hr hk Hq3a q3k;go_wp2_with fail;refine(Eb Hq3.o.rd HB.o Hy4.o).mono ?_;rintro e q4 ⟨rfl,hr,hk⟩;have Hq4a:=Hq3.o.num hr hk;have q4o:=Aa Hq4a.blk 5;have q4f:=Ab Hq4a.blk 5;have q4k:RS w (q4.setCell ⟨w.heap.size+2,5,none⟩ (.int .i64 (y4 % 100))) bv B #[.int .i64 (y2*1000),.slice adv N capv,.int .i64 (y0 % 28+1),.int .i64 (y1 % 25+1),.int .i64 y3,.int .i64 (y4 % 100),.int .i64 0] (.slice adv N capv) (Co B N) ((1+2*N+4)+1):=RS.set Hq4a 5 _ (heap_setCell_same _ _ 5 _ _ _ Hq4a.blk);have Hq4:=Lib.hid q4k;clear hr hk Hq4a q4k;go_wp2_with fail;refine(Eb Hq4.o.rd HB.o Hy5.o).mono ?_;rintro e q5 ⟨rfl,hr,hk⟩;have Hq5a:=Hq4.o.num hr hk;have q5o:=Aa Hq5a.blk 6;have q5f:=Ab Hq5a.blk 6;have q5k:RS w (q5.setCell ⟨w.heap.size+2,6,none⟩ (.int .i64 (10957+y5))) bv B #[.int .i64 (y2*1000),.slice adv N capv,.int .i64 (y0 % 28+1),.int .i64 (y1 % 25+1),.int .i64 y3,.int .i64 (y4 % 100),.int .i64 (10957+y5)] (.slice adv N capv) (Co B N) ((1+2*N+5)+1):=RS.set Hq5a 6 _ (heap_setCell_same _ _ 6 _ _ _ Hq5a.blk)
   have Hq5:=Lib.hid q5k;clear hr hk Hq5a q5k
   have hrd0:RD w (q5.setCell ⟨w.heap.size+2,6,none⟩ (.int .i64 (10957+y5))) bv B (.slice adv N capv) (.slice none 0 0) 0 (scrO B+6+4*0):=by
    have hrow:=Hq5.o.row;rw [Cy] at hrow;refine⟨by rw [<-Hoo.o];exact Hq5.o.rd,Hq5.o.res,by rw [Hterms.o];exact Hq5.o.blk,by rw [<-HNe.o];exact hrow,World.ownsRow_nil _ _ _ _,Hq5.o.kp,Hq5.o.new,by simp [Value.ownBlock]⟩
   have Hrd0:=Lib.hid hrd0;clear hrd0;go_wp2
   go_loopw [9,10] (λs9 s10 wr=>∃(j:Nat),s9= .int .i64 (Bq B j)/\RD w wr bv B (.slice adv N capv) s10 j (scrO B+6+4*j)/\j<=scrM B) (λ_ s10 _=>200-lenOf s10)
   case atStart=>exact⟨0,by rw [Hday0.o],Hrd0.o,Nat.zero_le _⟩
   case round=>
    obtain⟨j,rfl,hds,hjM⟩:=hrel;obtain⟨ad0,c0,rfl,hcc,_⟩:=Ae hds.row;obtain⟨day,hdayE⟩:=eX (Bq B j);have hday:=Qu HB.o j;rw [hdayE] at hday⊢;obtain⟨hd0,hd1⟩:=hday;obtain⟨kk,hkk⟩:=eX (scrO B+6+4*j);rw [hkk] at hds;have hb:=hds.rd.blk;have x1:=Aa hb 1;by_cases hgo:kk<B.length/\j<200
    ·obtain⟨hkl,hj2⟩:=hgo;rw [show min kk B.length=kk by omega] at x1;have hkl':(kk:Int)<(B.length:Int):=j8;obtain⟨y0,hy0,hy0a,hy0b⟩:=Ed HB.o kk;obtain⟨y1,hy1,hy1a,hy1b⟩:=Ed HB.o (kk+1);obtain⟨y2,hy2,hy2a,hy2b⟩:=Ed HB.o (kk+1+1);obtain⟨y3,hy3,hy3a,hy3b⟩:=Ed HB.o (kk+1+1+1);clear hb;obtain⟨Hds,HdayE,Hkk,Hy0,Hy1,Hy2,Hy3,Hkl⟩:=hid8 hds hdayE hkk hy0 hy1 hy2 hy3 hkl;clear hkl hy3 hy2 hy1 hy0 hkk hdayE hds hjM;go_wp2_with fail;refine(Eb Hds.o.rd HB.o Hy0.o).mono ?_;rintro e w5 ⟨rfl,hr,hk⟩;have Hd1:=Lib.hid (Hds.o.num hr hk);clear hr hk;go_wp2_with fail;refine(Eb Hd1.o.rd HB.o Hy1.o).mono ?_;rintro e w6 ⟨rfl,hr,hk⟩;have Hd2:=Lib.hid (Hd1.o.num hr hk);clear hr hk;go_wp2_with fail;refine(Eb Hd2.o.rd HB.o Hy2.o).mono ?_;rintro e w7 ⟨rfl,hr,hk⟩;have Hd3:=Lib.hid (Hd2.o.num hr hk);clear hr hk;go_wp2_with fail;refine(Eb Hd3.o.rd HB.o Hy3.o).mono ?_;rintro e w8 ⟨rfl,hr,hk⟩;have Hd4:=Lib.hid (Hd3.o.num hr hk);clear hr hk;rcases(show y0 % 11=0\/y0 % 11=1\/y0 % 11=2\/y0 % 11=3\/y0 % 11=4\/y0 % 11=5\/y0 % 11=6\/y0 % 11=7\/y0 % 11=8\/y0 % 11=9\/y0 % 11=10 from by omega) with hm|hm|hm|hm|hm|hm|hm|hm|hm|hm|hm
     ·have hcmd:cmdAt B day kk=⟨1,0,y1 % 4,256*y2+y3,0⟩:=by unfold cmdAt;rw [Hy0.o,Hy1.o,Hy2.o,Hy3.o];simp [cmdOf,hm];try omega
      have hc1:Bt B (j+1)=Bt B j++ [⟨1,0,y1 % 4,256*y2+y3,0⟩]:=by
       exact jI
      refine jP ?_;intro hsd;clear hcmd;obtain⟨Hc1,Hsd⟩:=hid2 hc1 hsd;clear hsd hc1
      go_wp2_with (at_builtin;refine Am rfl (.tmp 152) (.tmp 154) 27 rfl 0 33 i1 _ 5 40 Tryz.underlying27 ij ij0 ij1 ij2 rfl j7 (.slice ad0 j c0) j _ rfl ((Hd4.o.row.alloc _).alloc _) _ 1 [.int .i64 (1),.int .i64 (0),.int .i64 (y1 % 4),.int .i64 (256*y2+y3),.int .i64 (0)] rfl (Reads.litAt _ _ _ _ _ _ (by simp) rfl) jf jd j6 j6 ?_)
      intro v' w9 hown9 hk9 hf9;have hds9:=(Hd4.o.keep ((Keeps.alloc _ _).trans (Keeps.alloc _ _))).app (c:=⟨1,0,y1 % 4,256*y2+y3,0⟩) hown9 Hc1.o hk9 jJ;exact jK
     ·have hcmd:cmdAt B day kk=⟨2,0,0,256*y2+y3,0⟩:=by unfold cmdAt;rw [Hy0.o,Hy1.o,Hy2.o,Hy3.o];simp [cmdOf,hm];try omega
      have hc1:Bt B (j+1)=Bt B j++ [⟨2,0,0,256*y2+y3,0⟩]:=by
       exact jI
      refine jP ?_;intro hsd;clear hcmd;obtain⟨Hc1,Hsd⟩:=hid2 hc1 hsd;clear hsd hc1
      go_wp2_with (at_builtin;refine Am rfl (.tmp 152) (.tmp 154) 27 rfl 0 33 i1 _ 5 40 Tryz.underlying27 ij ij0 ij1 ij2 rfl j7 (.slice ad0 j c0) j _ rfl ((Hd4.o.row.alloc _).alloc _) _ 1 [.int .i64 (2),.int .i64 (0),.int .i64 (0),.int .i64 (256*y2+y3),.int .i64 (0)] rfl (Reads.litAt _ _ _ _ _ _ (by simp) rfl) jf jd j6 j6 ?_)
      intro v' w9 hown9 hk9 hf9;have hds9:=(Hd4.o.keep ((Keeps.alloc _ _).trans (Keeps.alloc _ _))).app (c:=⟨2,0,0,256*y2+y3,0⟩) hown9 Hc1.o hk9 jJ;exact jK
     ·have hcmd:cmdAt B day kk=⟨3,day-y3,y1 % 4,256*y2+y3,0⟩:=by unfold cmdAt;rw [Hy0.o,Hy1.o,Hy2.o,Hy3.o];simp [cmdOf,hm];try omega
      have hc1:Bt B (j+1)=Bt B j++ [⟨3,day-y3,y1 % 4,256*y2+y3,0⟩]:=by
       exact jI
      refine jP ?_;intro hsd;clear hcmd;obtain⟨Hc1,Hsd⟩:=hid2 hc1 hsd;clear hsd hc1
      go_wp2_with (at_builtin;refine Am rfl (.tmp 152) (.tmp 154) 27 rfl 0 33 i1 _ 5 40 Tryz.underlying27 ij ij0 ij1 ij2 rfl j7 (.slice ad0 j c0) j _ rfl ((Hd4.o.row.alloc _).alloc _) _ 1 [.int .i64 (3),.int .i64 (day-y3),.int .i64 (y1 % 4),.int .i64 (256*y2+y3),.int .i64 (0)] rfl (Reads.litAt _ _ _ _ _ _ (by simp) rfl) jf jd j6 j6 ?_)
      intro v' w9 hown9 hk9 hf9;have hds9:=(Hd4.o.keep ((Keeps.alloc _ _).trans (Keeps.alloc _ _))).app (c:=⟨3,day-y3,y1 % 4,256*y2+y3,0⟩) hown9 Hc1.o hk9 jJ;exact jK
     ·have hcmd:cmdAt B day kk=⟨4,0,y1 % 4,256*y2+y3,0⟩:=by unfold cmdAt;rw [Hy0.o,Hy1.o,Hy2.o,Hy3.o];simp [cmdOf,hm];try omega
      have hc1:Bt B (j+1)=Bt B j++ [⟨4,0,y1 % 4,256*y2+y3,0⟩]:=by
       exact jI
      refine jP ?_;intro hsd;clear hcmd;obtain⟨Hc1,Hsd⟩:=hid2 hc1 hsd;clear hsd hc1
      go_wp2_with (at_builtin;refine Am rfl (.tmp 152) (.tmp 154) 27 rfl 0 33 i1 _ 5 40 Tryz.underlying27 ij ij0 ij1 ij2 rfl j7 (.slice ad0 j c0) j _ rfl ((Hd4.o.row.alloc _).alloc _) _ 1 [.int .i64 (4),.int .i64 (0),.int .i64 (y1 % 4),.int .i64 (256*y2+y3),.int .i64 (0)] rfl (Reads.litAt _ _ _ _ _ _ (by simp) rfl) jf jd j6 j6 ?_)
      intro v' w9 hown9 hk9 hf9;have hds9:=(Hd4.o.keep ((Keeps.alloc _ _).trans (Keeps.alloc _ _))).app (c:=⟨4,0,y1 % 4,256*y2+y3,0⟩) hown9 Hc1.o hk9 jJ;exact jK
     ·have hcmd:cmdAt B day kk=⟨5,0,0,0,y2 % 8+1⟩:=by unfold cmdAt;rw [Hy0.o,Hy1.o,Hy2.o,Hy3.o];simp [cmdOf,hm];try omega
      have hc1:Bt B (j+1)=Bt B j++ [⟨5,0,0,0,y2 % 8+1⟩]:=by
       exact jI
      refine jP ?_;intro hsd;clear hcmd;obtain⟨Hc1,Hsd⟩:=hid2 hc1 hsd;clear hsd hc1
      go_wp2_with (at_builtin;refine Am rfl (.tmp 152) (.tmp 154) 27 rfl 0 33 i1 _ 5 40 Tryz.underlying27 ij ij0 ij1 ij2 rfl j7 (.slice ad0 j c0) j _ rfl ((Hd4.o.row.alloc _).alloc _) _ 1 [.int .i64 (5),.int .i64 (0),.int .i64 (0),.int .i64 (0),.int .i64 (y2 % 8+1)] rfl (Reads.litAt _ _ _ _ _ _ (by simp) rfl) jf jd j6 j6 ?_)
      intro v' w9 hown9 hk9 hf9;have hds9:=(Hd4.o.keep ((Keeps.alloc _ _).trans (Keeps.alloc _ _))).app (c:=⟨5,0,0,0,y2 % 8+1⟩) hown9 Hc1.o hk9 jJ;exact jK
     ·have hcmd:cmdAt B day kk=⟨6,0,0,0,y2 % 8+1⟩:=by unfold cmdAt;rw [Hy0.o,Hy1.o,Hy2.o,Hy3.o];simp [cmdOf,hm];try omega
      have hc1:Bt B (j+1)=Bt B j++ [⟨6,0,0,0,y2 % 8+1⟩]:=by
       exact jI
      refine jP ?_;intro hsd;clear hcmd;obtain⟨Hc1,Hsd⟩:=hid2 hc1 hsd;clear hsd hc1
      go_wp2_with (at_builtin;refine Am rfl (.tmp 152) (.tmp 154) 27 rfl 0 33 i1 _ 5 40 Tryz.underlying27 ij ij0 ij1 ij2 rfl j7 (.slice ad0 j c0) j _ rfl ((Hd4.o.row.alloc _).alloc _) _ 1 [.int .i64 (6),.int .i64 (0),.int .i64 (0),.int .i64 (0),.int .i64 (y2 % 8+1)] rfl (Reads.litAt _ _ _ _ _ _ (by simp) rfl) jf jd j6 j6 ?_)
      intro v' w9 hown9 hk9 hf9;have hds9:=(Hd4.o.keep ((Keeps.alloc _ _).trans (Keeps.alloc _ _))).app (c:=⟨6,0,0,0,y2 % 8+1⟩) hown9 Hc1.o hk9 jJ;exact jK
     ·have hcmd:cmdAt B day kk=⟨7,0,y1 % 4,100*(256*y2+y3),0⟩:=by unfold cmdAt;rw [Hy0.o,Hy1.o,Hy2.o,Hy3.o];simp [cmdOf,hm];try omega
      have hc1:Bt B (j+1)=Bt B j++ [⟨7,0,y1 % 4,100*(256*y2+y3),0⟩]:=by
       exact jI
      refine jP ?_;intro hsd;clear hcmd;obtain⟨Hc1,Hsd⟩:=hid2 hc1 hsd;clear hsd hc1
      go_wp2_with (at_builtin;refine Am rfl (.tmp 152) (.tmp 154) 27 rfl 0 33 i1 _ 5 40 Tryz.underlying27 ij ij0 ij1 ij2 rfl j7 (.slice ad0 j c0) j _ rfl ((Hd4.o.row.alloc _).alloc _) _ 1 [.int .i64 (7),.int .i64 (0),.int .i64 (y1 % 4),.int .i64 (100*(256*y2+y3)),.int .i64 (0)] rfl (Reads.litAt _ _ _ _ _ _ (by simp) rfl) jf jd j6 j6 ?_)
      intro v' w9 hown9 hk9 hf9;have hds9:=(Hd4.o.keep ((Keeps.alloc _ _).trans (Keeps.alloc _ _))).app (c:=⟨7,0,y1 % 4,100*(256*y2+y3),0⟩) hown9 Hc1.o hk9 jJ;exact jK
     ·have hcmd:cmdAt B day kk=⟨8,y3 % 40+1,0,0,0⟩:=by unfold cmdAt;rw [Hy0.o,Hy1.o,Hy2.o,Hy3.o];simp [cmdOf,hm];try omega
      have hc1:Bt B (j+1)=Bt B j++ [⟨8,y3 % 40+1,0,0,0⟩]:=by
       exact jI
      have hsd:Bq B (j+1)=day+(y3 % 40+1):=by
       exact j4A
      clear hcmd;obtain⟨Hc1,Hsd⟩:=hid2 hc1 hsd;clear hsd hc1
      go_wp2_with (at_builtin;refine Am rfl (.tmp 152) (.tmp 154) 27 rfl 0 33 i1 _ 5 40 Tryz.underlying27 ij ij0 ij1 ij2 rfl j7 (.slice ad0 j c0) j _ rfl ((Hd4.o.row.alloc _).alloc _) _ 1 [.int .i64 (8),.int .i64 (y3 % 40+1),.int .i64 (0),.int .i64 (0),.int .i64 (0)] rfl (Reads.litAt _ _ _ _ _ _ (by simp) rfl) jf jd j6 j6 ?_)
      intro v' w9 hown9 hk9 hf9;have hds9:=(Hd4.o.keep ((Keeps.alloc _ _).trans (Keeps.alloc _ _))).app (c:=⟨8,y3 % 40+1,0,0,0⟩) hown9 Hc1.o hk9 jJ;exact jK
     ·have hcmd:cmdAt B day kk=⟨9,0,0,0,0⟩:=by unfold cmdAt;rw [Hy0.o,Hy1.o,Hy2.o,Hy3.o];simp [cmdOf,hm];try omega
      have hc1:Bt B (j+1)=Bt B j++ [⟨9,0,0,0,0⟩]:=by
       exact jI
      refine jP ?_;intro hsd;clear hcmd;obtain⟨Hc1,Hsd⟩:=hid2 hc1 hsd;clear hsd hc1
      go_wp2_with (at_builtin;refine Am rfl (.tmp 152) (.tmp 154) 27 rfl 0 33 i1 _ 5 40 Tryz.underlying27 ij ij0 ij1 ij2 rfl j7 (.slice ad0 j c0) j _ rfl ((Hd4.o.row.alloc _).alloc _) _ 1 [.int .i64 (9),.int .i64 (0),.int .i64 (0),.int .i64 (0),.int .i64 (0)] rfl (Reads.litAt _ _ _ _ _ _ (by simp) rfl) jf jd j6 j6 ?_)
      intro v' w9 hown9 hk9 hf9;have hds9:=(Hd4.o.keep ((Keeps.alloc _ _).trans (Keeps.alloc _ _))).app (c:=⟨9,0,0,0,0⟩) hown9 Hc1.o hk9 jJ;exact jK
     ·have hcmd:cmdAt B day kk=⟨10,0,0,0,y2 % 8+1⟩:=by unfold cmdAt;rw [Hy0.o,Hy1.o,Hy2.o,Hy3.o];simp [cmdOf,hm];try omega
      have hc1:Bt B (j+1)=Bt B j++ [⟨10,0,0,0,y2 % 8+1⟩]:=by
       exact jI
      refine jP ?_;intro hsd;clear hcmd;obtain⟨Hc1,Hsd⟩:=hid2 hc1 hsd;clear hsd hc1
      go_wp2_with (at_builtin;refine Am rfl (.tmp 152) (.tmp 154) 27 rfl 0 33 i1 _ 5 40 Tryz.underlying27 ij ij0 ij1 ij2 rfl j7 (.slice ad0 j c0) j _ rfl ((Hd4.o.row.alloc _).alloc _) _ 1 [.int .i64 (10),.int .i64 (0),.int .i64 (0),.int .i64 (0),.int .i64 (y2 % 8+1)] rfl (Reads.litAt _ _ _ _ _ _ (by simp) rfl) jf jd j6 j6 ?_)
      intro v' w9 hown9 hk9 hf9;have hds9:=(Hd4.o.keep ((Keeps.alloc _ _).trans (Keeps.alloc _ _))).app (c:=⟨10,0,0,0,y2 % 8+1⟩) hown9 Hc1.o hk9 jJ;exact jK
     ·have hcmd:cmdAt B day kk=⟨11,0,0,0,y2 % 8+1⟩:=by unfold cmdAt;rw [Hy0.o,Hy1.o,Hy2.o,Hy3.o];simp [cmdOf,hm];try omega
      have hc1:Bt B (j+1)=Bt B j++ [⟨11,0,0,0,y2 % 8+1⟩]:=by
       exact jI
      refine jP ?_;intro hsd;clear hcmd;obtain⟨Hc1,Hsd⟩:=hid2 hc1 hsd;clear hsd hc1
      go_wp2_with (at_builtin;refine Am rfl (.tmp 152) (.tmp 154) 27 rfl 0 33 i1 _ 5 40 Tryz.underlying27 ij ij0 ij1 ij2 rfl j7 (.slice ad0 j c0) j _ rfl ((Hd4.o.row.alloc _).alloc _) _ 1 [.int .i64 (11),.int .i64 (0),.int .i64 (0),.int .i64 (0),.int .i64 (y2 % 8+1)] rfl (Reads.litAt _ _ _ _ _ _ (by simp) rfl) jf jd j6 j6 ?_)
      intro v' w9 hown9 hk9 hf9;have hds9:=(Hd4.o.keep ((Keeps.alloc _ _).trans (Keeps.alloc _ _))).app (c:=⟨11,0,0,0,y2 % 8+1⟩) hown9 Hc1.o hk9 jJ;exact jK
    ·have hjE:j=scrM B:=by unfold scrM at hjM⊢;omega
     have hgo':B.length<=kk\/(kk<B.length/\200<=j):=j8;clear hgo;have hblk:=hds.blk;have hres:=hds.res;obtain⟨t0,t2,t3,t4,t5,t6,ht⟩:∃t0 t2 t3 t4 t5 t6:Int,(Bz B).cells (.slice adv N capv)= #[.int .i64 t0,.slice adv N capv,.int .i64 t2,.int .i64 t3,.int .i64 t4,.int .i64 t5,.int .i64 t6]:=⟨_,_,_,_,_,_,rfl⟩;rw [ht] at hblk;unfold zTm at hres;have b0:=Aa hblk 0;have b1:=Aa hblk 1;have b2:=Aa hblk 2;have b3:=Aa hblk 3;have b4:=Aa hblk 4;have b5:=Aa hblk 5;have b6:=Aa hblk 6;have r0:=Aa hres 0;have r1:=Aa hres 1;have r2:=Aa hres 2;have r3:=Aa hres 3;have r4:=Aa hres 4;have r5:=Aa hres 5;have r6:=Aa hres 6;have rf:=Ab hres;have rl:=lt_of_block hres;have Hend:=Lib.hid (rdec_end hds hjE ht);obtain⟨Hds,HdayE,Hkk⟩:=hid3 hds hdayE hkk;clear hkk hdayE hds hjM hjE;clear hblk hres ht hb;rcases hgo' with hgo'|⟨hgo',hgo2⟩
     ·rw [show min kk B.length=B.length by omega] at x1;exact j4B
     ·rw [show min kk B.length=kk by omega] at x1;have hkl':(kk:Int)<(B.length:Int):=j8;exact j4B
end Go.Proofs.YtjkdnaljkdnomaaGreatDoor
