/- The walks of the replay layer: right. -/
import Derived.Lib.SliceRun
import Derived.Test.YthcmpcekmkioaaaB4
namespace Go.Proofs.Ythcmpcekmkioaaa
open Go.RowKit
def applyQ (p : Ps) (R : List Int) (e : Ev) : Ps × Int := if e.kind = 1 ∨ e.kind = 5 then chargeR p e.tranche e.amount else if e.kind = 2 then payR p R e.amount else if e.kind = 3 ∨ e.kind = 4 then giveR p R e.tranche e.amount else (p, 0)
def applyRt (R : List Int) (e : Ev) : List Int := if e.kind = 6 then R.set (e.tranche - 1).toNat e.amount else R
def applyR (p : Ps) (R : List Int) (e : Ev) : Ps × List Int × Int := if mayA p R e = true then (if (applyQ p R e).2 = 0 then ((applyQ p R e).1, applyRt R e, 0) else (ps0, [], (applyQ p R e).2)) else (ps0, [], 1)
theorem rateB_iff (x : Int) : rateB x = false ↔ 0 ≤ x ∧ x ≤ 10000000 := by simp [rateB, outM]
theorem rates_ok {R : List Int} (h : R.any rateB = false) : ∀ x ∈ R, 0 ≤ x ∧ x ≤ 10000000 := fun x hx => by
 rw [← rateB_iff]
 rcases hb : rateB x with _ | _
 ·rfl
 ·rw [List.any_eq_true.2 ⟨x, hx, hb⟩] at h; cases h
structure MayOk (p : Ps) (R : List Int) (e : Ev) : Prop where
 pr : p.rightB = true
 len : R.length = p.bal.length
 rt : ∀ x ∈ R, 0 ≤ x ∧ x ≤ 10000000
 k1 : 1 ≤ e.kind
 k6 : e.kind ≤ 6
 tr : e.kind ≠ 2 → 1 ≤ e.tranche ∧ e.tranche ≤ R.length
 am : e.kind = 6 → 0 ≤ e.amount ∧ e.amount ≤ 10000000
theorem mayA_ok {p : Ps} {R : List Int} {e : Ev} (h : mayA p R e = true) : MayOk p R e := by
 unfold mayA at h
 rw [Bool.and_eq_true, Bool.and_eq_true, Bool.and_eq_true, Bool.and_eq_true] at h
 obtain ⟨h1, h2, h3, h4, h5⟩ := h
 have h3' : R.any rateB = false := by simpa using h3
 have h4' : ¬ e.kind < 1 ∧ ¬ 6 < e.kind ∧ (e.kind ≠ 2 → ¬ e.tranche < 1 ∧ ¬ (R.length : Int) < e.tranche) := by
  rcases hk2 : (e.kind != 2) with _ | _
  ·rw [hk2] at h4
   have hk2' : e.kind = 2 := by simpa using hk2
   refine ⟨by omega, by omega, fun h => absurd hk2' h⟩
  ·rw [hk2] at h4
   simp only [Bool.true_and, Bool.not_eq_true', Bool.or_eq_false_iff, decide_eq_false_iff_not] at h4
   exact ⟨h4.1, h4.2.1, fun _ => h4.2.2⟩
 have h5' : e.kind = 6 → 0 ≤ e.amount ∧ e.amount ≤ 10000000 := fun hk => by
  rw [show (e.kind != 6) = false by simp [hk], Bool.false_or, Bool.and_eq_true, decide_eq_true_eq, decide_eq_true_eq] at h5
  exact h5
 exact ⟨h1, by simpa using h2, rates_ok h3', by omega, by omega, fun hk => by have := h4'.2.2 hk; omega, h5'⟩
structure AB (E : Array Value) (w W : World) : Prop where
 e : W.heap[w.heap.size + 1]? = some (.cells E 54 (0, 0))
 r : W.heap[w.heap.size + 1 + 1]? = some (.cells #[.slice none 0 0, .int .i64 0, .int .i64 0] 32 (0, 0))
 kp : Keeps (fun _ => False) w W
theorem AB.keep {E : Array Value} {w W W' : World} (h : AB E w W) (hk : Keeps (fun i => i = w.heap.size) W W') : AB E w W' := ⟨box_old h.e hk (by omega), box_old h.r hk (by omega), h.kp.trans (hk.mono fun i _ e => .inr (by have e' : i = w.heap.size := e; omega))⟩
theorem AB.keep0 {E : Array Value} {w W W' : World} (h : AB E w W) (hk : Keeps (fun _ => False) W W') : AB E w W' := h.keep (hk.mono (by simp))
theorem AB.start (C E : Array Value) (w : World) : AB E w (((w.alloc (.cells C 32)).alloc (.cells E 54)).alloc (.cells #[.slice none 0 0, .int .i64 0, .int .i64 0] 32)) :=
 ⟨box_alloc (halloc_at2 _ _ (by simp)) _, halloc_at2 _ _ (by simp), ((Keeps.alloc _ _).trans_alloc).trans_alloc⟩
def ApplyPost (r : Ps × List Int × Int) (w : World) (e : Ending) (w' : World) : Prop := ∃ vb vr, e = .returned (.tuple #[.agg #[vb, .int .i64 r.1.cr, .int .i64 r.1.du], vr, .int .i64 r.2.2]) ∧ w'.ownsRow 0 2 1 vb r.1.bal.length (r.1.bal.flatMap i64c) ∧ w'.ownsRow 0 2 1 vr r.2.1.length (r.2.1.flatMap i64c) ∧ Keeps (fun _ => False) w w' ∧
 (∀ i, vb.ownBlock = some i → w.heap.size ≤ i) ∧ (∀ i, vr.ownBlock = some i → w.heap.size ≤ i)
set_option maxRecDepth 100000 in
set_option maxHeartbeats 3200000 in
theorem repApply_any (L R : List Int) (cr du ki da tr am re : Int) (ad adR : Option Addr) (cap cR n m : Nat) (w : World) (hr : Reads w 1 (.slice ad n cap) n (L.flatMap i64c)) (hN : L.length = n) (hl : n ≤ 1000) (hR : Reads w 1 (.slice adR m cR) m (R.flatMap i64c)) (hRm : R.length = m) (hm : m ≤ 1000) :
  Calls Try.prog 59 #[.agg #[.slice ad n cap, .int .i64 cr, .int .i64 du], .slice adR m cR, .agg #[.int .i64 ki, .int .i64 da, .int .i64 tr, .int .i64 am, .int .i64 re]] w (ApplyPost (applyR ⟨L, cr, du⟩ R ⟨ki, da, tr, am, re⟩) w) := by
 have hmay := fun W (hW : Keeps (fun _ => False) w W) => repMay_any L R cr du ki da tr am re ad adR cap cR n m W (hr.keeps hW (by simp)) hN hl (hR.keeps hW (by simp)) hRm hm
 have hst := AB.start #[.slice ad n cap, .int .i64 cr, .int .i64 du] #[.int .i64 ki, .int .i64 da, .int .i64 tr, .int .i64 am, .int .i64 re] w
 have hpb : (((w.alloc (.cells #[.slice ad n cap, .int .i64 cr, .int .i64 du] 32)).alloc (.cells #[.int .i64 ki, .int .i64 da, .int .i64 tr, .int .i64 am, .int .i64 re] 54)).alloc (.cells #[.slice none 0 0, .int .i64 0, .int .i64 0] 32)).heap[w.heap.size]? = some (.cells #[.slice ad n cap, .int .i64 cr, .int .i64 du] 32 (0, 0)) := box_alloc (box_alloc (heap_alloc_new w _) _) _
 obtain ⟨W0, hW0⟩ : ∃ W0, W0 = (((w.alloc (.cells #[.slice ad n cap, .int .i64 cr, .int .i64 du] 32)).alloc (.cells #[.int .i64 ki, .int .i64 da, .int .i64 tr, .int .i64 am, .int .i64 re] 54)).alloc (.cells #[.slice none 0 0, .int .i64 0, .int .i64 0] 32)) := ⟨_, rfl⟩
 rw [← hW0] at hst hpb
 obtain ⟨A, hA⟩ : ∃ A, applyR ⟨L, cr, du⟩ R ⟨ki, da, tr, am, re⟩ = A := ⟨_, rfl⟩
 rw [hA]
 unfold applyR at hA
 rcases hmb : mayA ⟨L, cr, du⟩ R ⟨ki, da, tr, am, re⟩ with _ | _
 ·rw [hmb] at hmay hA
  rw [if_neg (by decide)] at hA
  subst hA
  obtain ⟨Hr, HN, HR, HRm, Hmay, Hst, Hpb, Hmb⟩ := hid8 hr hN hR hRm hmay hst hpb hmb; clear hmb hpb hst hmay hRm hR hN hr
  go_enter Try.func59, Try.ntmps59
  go_wp2_with fail
  rw [← hW0]
  refine (Hmay.out _ Hst.out.kp).mono ?_
  rintro e w1 ⟨rfl, hk1⟩
  have hab1 := Hst.out.keep0 hk1
  have hrs := hab1.r
  have hS3 := store3 hrs (.slice none 0 0) (.int .i64 0) (.int .i64 0)
  obtain ⟨hb9, k9⟩ := hS3
  have r0 := cell_of_cells hrs 0
  have r1 := cell_of_cells hrs 1
  have r2 := cell_of_cells hrs 2
  have rf0 := free_of_cells hrs 0
  have rf1 := free_of_cells hrs 1
  have rf2 := free_of_cells hrs 2
  have rl := lt_of_block hrs
  have sr0 := cell_of_cells hb9 0
  have sr1 := cell_of_cells hb9 1
  have sr2 := cell_of_cells hb9 2
  obtain ⟨Hrs, Hb9, K9, Sr0, Sr1, Sr2⟩ := hid6 hrs hb9 k9 sr0 sr1 sr2; clear sr2 sr1 sr0 k9 hb9 hrs
  obtain ⟨Hk1, Hab1⟩ := hid2 hk1 hab1; clear hab1 hk1
  go_wp2
  have R0' := Sr0.out
  have R1' := Sr1.out
  have R2' := Sr2.out
  clear r0 r1 r2
  exact bodyPost_ret (v := .tuple #[.agg #[.slice none 0 0, .int .i64 0, .int .i64 0], .slice none 0 0, .int .i64 1]) (by simp [results, Try.results59, go_sem, R0', R1', R2']) rfl ⟨_, _, rfl, World.ownsRow_nil _ _ _ _, World.ownsRow_nil _ _ _ _, Hab1.out.kp.trans (K9.out.mono fun i _ e => .inr (by have e' : i = w.heap.size + 1 + 1 := e; omega)), by simp [Value.ownBlock], by simp [Value.ownBlock]⟩
 ·have hmo := mayA_ok hmb
  rw [hmb] at hmay hA
  rw [if_pos rfl] at hA
  obtain ⟨hpr, hlen, hrt, hk1, hk6, htr, ham⟩ := hmo
  simp only at hlen hk1 hk6 htr ham
  obtain rfl : m = n := by rw [← hRm, hlen, hN]
  have hcl := fun W (hW : Keeps (fun _ => False) w W) => cloneI64_any W (.slice adR m cR) m (R.flatMap i64c) (hR.keeps hW (by simp)) (i64c_one _) (by omega)
  have hcl2 := fun W (hW : Keeps (fun _ => False) w W) => cloneI64_any W (.slice ad m cap) m (L.flatMap i64c) (hr.keeps hW (by simp)) (i64c_one _) (by omega)
  obtain ⟨hbal, hcr, hdu, hn1, hn8⟩ := right_nums hpr
  simp only at hbal hcr hdu hn1 hn8
  rw [hN] at hn1 hn8
  obtain ⟨Hr, HN, HR, HRm, Hmay, Hst, Hpb, Hmb, Hpr⟩ := hid9 hr hN hR hRm hmay hst hpb hmb hpr; clear hpr hmb hpb hst hmay hRm hR hN hr; obtain ⟨Hlen, Hrt, Hcl, Hcl2, Hbal, Hcr, Hdu, HA⟩ := hid8 hlen hrt hcl hcl2 hbal hcr hdu hA; clear hA hdu hcr hbal hcl2 hcl hrt hlen
  go_enter Try.func59, Try.ntmps59
  go_wp2_with fail
  rw [← hW0]
  refine (Hmay.out _ Hst.out.kp).mono ?_
  rintro e w1 ⟨rfl, hk1⟩
  have hab1 := Hst.out.keep0 hk1
  have hpb1 := box_old Hpb.out hk1 (by simp)
  obtain ⟨Hk1, Hab1, Hpb1⟩ := hid3 hk1 hab1 hpb1; clear hpb1 hab1 hk1
  go_wp2_with fail
  refine (Hcl.out _ Hab1.out.kp).mono ?_
  rintro e w2 ⟨vr, rfl, hrr2, hk2, hg2⟩
  obtain ⟨gr, cr2, rfl⟩ := owns_head hrr2 hn1
  have hab2 := Hab1.out.keep0 hk2
  have hpb2 := box_old Hpb1.out hk2 (by simp)
  have p0 := cell_of_cells hpb2 0
  have pl := lt_of_block hpb2
  obtain ⟨Hk2, Hab2, Hpb2, Hrr2, Hg2⟩ := hid5 hk2 hab2 hpb2 hrr2 hg2; clear hg2 hrr2 hpb2 hab2 hk2
  go_wp2_with fail
  refine (Hcl2.out _ Hab2.out.kp).mono ?_
  rintro e w3 ⟨vb, rfl, hrb3, hk3, hg3⟩
  obtain ⟨gb, cb, rfl⟩ := owns_head hrb3 hn1
  clear p0 pl
  have hab3 := Hab2.out.keep0 hk3
  have hpb3 := box_old Hpb2.out hk3 (by simp)
  have hrr3 := Hrr2.out.of_keeps hk3
  have p0 := cell_of_cells hpb3 0
  have pf0 := free_of_cells hpb3 0
  have pl := lt_of_block hpb3
  have k4 : Keeps (fun i => i = w.heap.size) w3 (w3.setCell ⟨w.heap.size, 0, none⟩ (.slice (some ⟨gb, 0, none⟩) m cb)) := Keeps.setCell _ _ _ rfl
  have hpb4 := (heap_setCell_same _ _ 0 _ _ (.slice (some ⟨gb, 0, none⟩) m cb) hpb3).trans rfl
  have hab4 := hab3.keep k4
  have hg2' : ∀ i, (Value.slice (some ⟨gr, 0, none⟩) m cr2).ownBlock = some i → w.heap.size + 1 + 1 < i := fun i e => by have := Hg2.out i e; have := lt_of_block Hab1.out.r; omega
  have hg3' : ∀ i, (Value.slice (some ⟨gb, 0, none⟩) m cb).ownBlock = some i → w.heap.size + 1 + 1 < i := fun i e => by have := hg3 i e; have := lt_of_block Hab2.out.r; omega
  have hrb4 := k4.row hrb3 (fun i hi e => by have e' : i = w.heap.size := e; have := hg3' i hi; omega)
  have hrr4 := k4.row hrr3 (fun i hi e => by have e' : i = w.heap.size := e; have := hg2' i hi; omega)
  have hg23 : ¬ gb = gr := fun e => by have h1 := hg3 gb rfl; have h2 := own_lt Hrr2.out (show (Value.slice (some ⟨gr, 0, none⟩) m cr2).ownBlock = some gr from rfl); omega
  obtain ⟨W4, hW4⟩ : ∃ W4, W4 = (w3.setCell ⟨w.heap.size, 0, none⟩ (.slice (some ⟨gb, 0, none⟩) m cb)) := ⟨_, rfl⟩
  rw [← hW4] at hpb4 hab4 hrb4 hrr4
  have p1 := cell_of_cells hpb3 1
  have p2 := cell_of_cells hpb3 2
  have e0 := cell_of_cells (hab3).e 0
  have e2 := cell_of_cells (hab3).e 2
  have e3 := cell_of_cells (hab3).e 3
  have el := lt_of_block (hab3).e
  clear Hg2
  obtain ⟨Hk3, Hab3, Hpb3, Hrr3, Hrb3, Hg3, K4, Hpb4, Hab4⟩ := hid9 hk3 hab3 hpb3 hrr3 hrb3 hg3 k4 hpb4 hab4; clear hab4 hpb4 k4 hg3 hrb3 hrr3 hpb3 hab3 hk3; obtain ⟨Hrb4, Hrr4, Hg2', Hg3', Hg23⟩ := hid5 hrb4 hrr4 hg2' hg3' hg23; clear hg23 hg3' hg2' hrr4 hrb4
  have Hg2 := Hg2'
  clear Hg2'
  have hkk : ki = 1 ∨ ki = 2 ∨ ki = 3 ∨ ki = 4 ∨ ki = 5 ∨ ki = 6 := by omega
  go_upto_region 5 with (fail)
  rw [← hW4]
  have HW4 := Lib.hid hW4
  clear hW4 p0 pf0 pl p1 p2 e0 e2 e3 el
  rcases hkk with rfl | rfl | rfl | rfl | rfl | rfl
  ·skip
   have hA := HA.out
   clear HA
   simp [applyQ, applyRt] at hA
   obtain ⟨⟨q, z⟩, hq⟩ : ∃ q, chargeR ⟨L, cr, du⟩ tr am = q := ⟨_, rfl⟩
   rw [hq] at hA
   have hcall := fun W (hW : Keeps (fun _ => False) W4 W) => poolCharge_any L cr du tr am (some ⟨gb, 0, none⟩) cb m W ((Reads.of_owns Hrb4.out).keeps hW (by simp)) HN.out hl
   rw [hq] at hcall
   simp only at hA hcall
   have p0 := cell_of_cells Hpb4.out 0
   have p1 := cell_of_cells Hpb4.out 1
   have p2 := cell_of_cells Hpb4.out 2
   have pl4 := lt_of_block Hpb4.out
   have e0 := cell_of_cells Hab4.out.e 0
   have e2 := cell_of_cells Hab4.out.e 2
   have e3 := cell_of_cells Hab4.out.e 3
   have el4 := lt_of_block Hab4.out.e
   obtain ⟨Hq, Hcall⟩ := hid2 hq hcall; clear hcall hq
   go_wp2_with fail
   refine (Hcall.out _ (Keeps.refl _ _)).mono ?_
   rintro e w5 ⟨v5, rfl, hrow5, hf5⟩
   obtain ⟨a5, m5, rfl⟩ : ∃ a c, v5 = .slice a q.bal.length c := by obtain ⟨a, c, h, _⟩ := ownsRow_shape hrow5; exact ⟨a, c, h⟩
   clear e0 e2 e3 el4 p0 p1 p2 pl4
   have hab5 := Hab4.out.keep0 hf5.1
   have hpb5 := box_old Hpb4.out hf5.1 (by simp)
   have hrr5 := Hrr4.out.of_keeps hf5.1
   obtain ⟨hpb6, k6⟩ := store3 hpb5 (.slice a5 q.bal.length m5) (.int .i64 q.cr) (.int .i64 q.du)
   have hab6 := hab5.keep k6
   have hg5 : ∀ i, (Value.slice a5 q.bal.length m5).ownBlock = some i → w.heap.size + 1 + 1 < i := fun i e => by have := hf5.2 i e; have := lt_of_block Hab4.out.r; omega
   have hrow6 := k6.row hrow5 (fun i hi e => by have e' : i = w.heap.size := e; have := hg5 i hi; omega)
   have hrr6 := k6.row hrr5 (fun i hi e => by have e' : i = w.heap.size := e; have := Hg2.out i hi; omega)
   have p0 := cell_of_cells hpb5 0
   have p1 := cell_of_cells hpb5 1
   have p2 := cell_of_cells hpb5 2
   have q0 := free_of_cells hpb5 0
   have q1 := free_of_cells hpb5 1
   have q2 := free_of_cells hpb5 2
   have pl := lt_of_block hpb5
   have r0 := cell_of_cells hab5.r 0
   have r1 := cell_of_cells hab5.r 1
   have r2 := cell_of_cells hab5.r 2
   have rf0 := free_of_cells hab5.r 0
   have rf1 := free_of_cells hab5.r 1
   have rf2 := free_of_cells hab5.r 2
   have rl := lt_of_block hab5.r
   by_cases hz0 : z = 0
   ·subst hz0
    rw [if_pos rfl] at hA
    subst hA
    have hS3 := store3 hab6.r (.slice a5 q.bal.length m5) (.int .i64 q.cr) (.int .i64 q.du)
    obtain ⟨hb9, k9⟩ := hS3
    have hkf := hab6.kp.trans (k9.mono fun i _ e => .inr (by have e' : i = w.heap.size + 1 + 1 := e; omega))
    have hrow9 := k9.row hrow6 (fun i hi e => by have e' : i = w.heap.size + 1 + 1 := e; have := hg5 i hi; omega)
    have hrr9 := k9.row hrr6 (fun i hi e => by have e' : i = w.heap.size + 1 + 1 := e; have := Hg2.out i hi; omega)
    have sr0 := cell_of_cells hb9 0
    have sr1 := cell_of_cells hb9 1
    have sr2 := cell_of_cells hb9 2
    obtain ⟨Hrow5, Hf5, Hab5, Hpb5, Hrr5, Hpb6, K6, Hab6, Hg5⟩ := hid9 hrow5 hf5 hab5 hpb5 hrr5 hpb6 k6 hab6 hg5; clear hg5 hab6 k6 hpb6 hrr5 hpb5 hab5 hf5 hrow5; obtain ⟨Hrow6, Hrr6, Hb9, K9, Hkf, Hrow9, Hrr9, Sr0, Sr1⟩ := hid9 hrow6 hrr6 hb9 k9 hkf hrow9 hrr9 sr0 sr1; clear sr1 sr0 hrr9 hrow9 hkf k9 hb9 hrr6 hrow6; have Sr2 := Lib.hid sr2; clear sr2
    go_wp2
    have R0' := Sr0.out
    have R1' := Sr1.out
    have R2' := Sr2.out
    clear r0 r1 r2 p0 p1 p2
    exact bodyPost_ret (v := .tuple #[.agg #[.slice a5 q.bal.length m5, .int .i64 q.cr, .int .i64 q.du], .slice (some ⟨gr, 0, none⟩) m cr2, .int .i64 0]) (by simp [results, Try.results59, go_sem, R0', R1', R2']) rfl ⟨_, _, rfl, Hrow9.out, by rw [HRm.out]; exact Hrr9.out, Hkf.out, fun i hi => by have := Hg5.out i hi; omega, fun i hi => by have := Hg2.out i hi; omega⟩
   ·rw [if_neg hz0] at hA
    subst hA
    have hz1 : (z != 0) = true := by simp [hz0]
    have hS3 := store3 hab6.r (.slice none 0 0) (.int .i64 0) (.int .i64 0)
    obtain ⟨hb9, k9⟩ := hS3
    have hkf := hab6.kp.trans (k9.mono fun i _ e => .inr (by have e' : i = w.heap.size + 1 + 1 := e; omega))
    have sr0 := cell_of_cells hb9 0
    have sr1 := cell_of_cells hb9 1
    have sr2 := cell_of_cells hb9 2
    obtain ⟨Hrow5, Hf5, Hab5, Hpb5, Hrr5, Hpb6, K6, Hab6, Hg5⟩ := hid9 hrow5 hf5 hab5 hpb5 hrr5 hpb6 k6 hab6 hg5; clear hg5 hab6 k6 hpb6 hrr5 hpb5 hab5 hf5 hrow5; obtain ⟨Hrow6, Hrr6, Hb9, K9, Hkf, Sr0, Sr1, Sr2, Hz0⟩ := hid9 hrow6 hrr6 hb9 k9 hkf sr0 sr1 sr2 hz0; clear hz0 sr2 sr1 sr0 hkf k9 hb9 hrr6 hrow6
    go_wp2
    have R0' := Sr0.out
    have R1' := Sr1.out
    have R2' := Sr2.out
    clear r0 r1 r2 p0 p1 p2
    exact bodyPost_ret (v := .tuple #[.agg #[.slice none 0 0, .int .i64 0, .int .i64 0], .slice none 0 0, .int .i64 z]) (by simp [results, Try.results59, go_sem, R0', R1', R2']) rfl ⟨_, _, rfl, World.ownsRow_nil _ _ _ _, World.ownsRow_nil _ _ _ _, Hkf.out, by simp [Value.ownBlock], by simp [Value.ownBlock]⟩
  ·skip
   have hA := HA.out
   clear HA
   simp [applyQ, applyRt] at hA
   obtain ⟨⟨q, z⟩, hq⟩ : ∃ q, payR ⟨L, cr, du⟩ R am = q := ⟨_, rfl⟩
   rw [hq] at hA
   have hcall := fun W (hW : Keeps (fun _ => False) W4 W) => poolPay_any L R cr du am (some ⟨gb, 0, none⟩) (some ⟨gr, 0, none⟩) cb cr2 m W ((Reads.of_owns Hrb4.out).keeps hW (by simp)) HN.out hl ((Reads.of_owns Hrr4.out).keeps hW (by simp)) HRm.out
   rw [hq] at hcall
   simp only at hA hcall
   have p0 := cell_of_cells Hpb4.out 0
   have p1 := cell_of_cells Hpb4.out 1
   have p2 := cell_of_cells Hpb4.out 2
   have pl4 := lt_of_block Hpb4.out
   have e0 := cell_of_cells Hab4.out.e 0
   have e2 := cell_of_cells Hab4.out.e 2
   have e3 := cell_of_cells Hab4.out.e 3
   have el4 := lt_of_block Hab4.out.e
   obtain ⟨Hq, Hcall⟩ := hid2 hq hcall; clear hcall hq
   go_wp2_with fail
   refine (Hcall.out _ (Keeps.refl _ _)).mono ?_
   rintro e w5 ⟨v5, rfl, hrow5, hf5⟩
   obtain ⟨a5, m5, rfl⟩ : ∃ a c, v5 = .slice a q.bal.length c := by obtain ⟨a, c, h, _⟩ := ownsRow_shape hrow5; exact ⟨a, c, h⟩
   clear e0 e2 e3 el4 p0 p1 p2 pl4
   have hab5 := Hab4.out.keep0 hf5.1
   have hpb5 := box_old Hpb4.out hf5.1 (by simp)
   have hrr5 := Hrr4.out.of_keeps hf5.1
   obtain ⟨hpb6, k6⟩ := store3 hpb5 (.slice a5 q.bal.length m5) (.int .i64 q.cr) (.int .i64 q.du)
   have hab6 := hab5.keep k6
   have hg5 : ∀ i, (Value.slice a5 q.bal.length m5).ownBlock = some i → w.heap.size + 1 + 1 < i := fun i e => by have := hf5.2 i e; have := lt_of_block Hab4.out.r; omega
   have hrow6 := k6.row hrow5 (fun i hi e => by have e' : i = w.heap.size := e; have := hg5 i hi; omega)
   have hrr6 := k6.row hrr5 (fun i hi e => by have e' : i = w.heap.size := e; have := Hg2.out i hi; omega)
   have p0 := cell_of_cells hpb5 0
   have p1 := cell_of_cells hpb5 1
   have p2 := cell_of_cells hpb5 2
   have q0 := free_of_cells hpb5 0
   have q1 := free_of_cells hpb5 1
   have q2 := free_of_cells hpb5 2
   have pl := lt_of_block hpb5
   have r0 := cell_of_cells hab5.r 0
   have r1 := cell_of_cells hab5.r 1
   have r2 := cell_of_cells hab5.r 2
   have rf0 := free_of_cells hab5.r 0
   have rf1 := free_of_cells hab5.r 1
   have rf2 := free_of_cells hab5.r 2
   have rl := lt_of_block hab5.r
   by_cases hz0 : z = 0
   ·subst hz0
    rw [if_pos rfl] at hA
    subst hA
    have hS3 := store3 hab6.r (.slice a5 q.bal.length m5) (.int .i64 q.cr) (.int .i64 q.du)
    obtain ⟨hb9, k9⟩ := hS3
    have hkf := hab6.kp.trans (k9.mono fun i _ e => .inr (by have e' : i = w.heap.size + 1 + 1 := e; omega))
    have hrow9 := k9.row hrow6 (fun i hi e => by have e' : i = w.heap.size + 1 + 1 := e; have := hg5 i hi; omega)
    have hrr9 := k9.row hrr6 (fun i hi e => by have e' : i = w.heap.size + 1 + 1 := e; have := Hg2.out i hi; omega)
    have sr0 := cell_of_cells hb9 0
    have sr1 := cell_of_cells hb9 1
    have sr2 := cell_of_cells hb9 2
    obtain ⟨Hrow5, Hf5, Hab5, Hpb5, Hrr5, Hpb6, K6, Hab6, Hg5⟩ := hid9 hrow5 hf5 hab5 hpb5 hrr5 hpb6 k6 hab6 hg5; clear hg5 hab6 k6 hpb6 hrr5 hpb5 hab5 hf5 hrow5; obtain ⟨Hrow6, Hrr6, Hb9, K9, Hkf, Hrow9, Hrr9, Sr0, Sr1⟩ := hid9 hrow6 hrr6 hb9 k9 hkf hrow9 hrr9 sr0 sr1; clear sr1 sr0 hrr9 hrow9 hkf k9 hb9 hrr6 hrow6; have Sr2 := Lib.hid sr2; clear sr2
    go_wp2
    have R0' := Sr0.out
    have R1' := Sr1.out
    have R2' := Sr2.out
    clear r0 r1 r2 p0 p1 p2
    exact bodyPost_ret (v := .tuple #[.agg #[.slice a5 q.bal.length m5, .int .i64 q.cr, .int .i64 q.du], .slice (some ⟨gr, 0, none⟩) m cr2, .int .i64 0]) (by simp [results, Try.results59, go_sem, R0', R1', R2']) rfl ⟨_, _, rfl, Hrow9.out, by rw [HRm.out]; exact Hrr9.out, Hkf.out, fun i hi => by have := Hg5.out i hi; omega, fun i hi => by have := Hg2.out i hi; omega⟩
   ·rw [if_neg hz0] at hA
    subst hA
    have hz1 : (z != 0) = true := by simp [hz0]
    have hS3 := store3 hab6.r (.slice none 0 0) (.int .i64 0) (.int .i64 0)
    obtain ⟨hb9, k9⟩ := hS3
    have hkf := hab6.kp.trans (k9.mono fun i _ e => .inr (by have e' : i = w.heap.size + 1 + 1 := e; omega))
    have sr0 := cell_of_cells hb9 0
    have sr1 := cell_of_cells hb9 1
    have sr2 := cell_of_cells hb9 2
    obtain ⟨Hrow5, Hf5, Hab5, Hpb5, Hrr5, Hpb6, K6, Hab6, Hg5⟩ := hid9 hrow5 hf5 hab5 hpb5 hrr5 hpb6 k6 hab6 hg5; clear hg5 hab6 k6 hpb6 hrr5 hpb5 hab5 hf5 hrow5; obtain ⟨Hrow6, Hrr6, Hb9, K9, Hkf, Sr0, Sr1, Sr2, Hz0⟩ := hid9 hrow6 hrr6 hb9 k9 hkf sr0 sr1 sr2 hz0; clear hz0 sr2 sr1 sr0 hkf k9 hb9 hrr6 hrow6
    go_wp2
    have R0' := Sr0.out
    have R1' := Sr1.out
    have R2' := Sr2.out
    clear r0 r1 r2 p0 p1 p2
    exact bodyPost_ret (v := .tuple #[.agg #[.slice none 0 0, .int .i64 0, .int .i64 0], .slice none 0 0, .int .i64 z]) (by simp [results, Try.results59, go_sem, R0', R1', R2']) rfl ⟨_, _, rfl, World.ownsRow_nil _ _ _ _, World.ownsRow_nil _ _ _ _, Hkf.out, by simp [Value.ownBlock], by simp [Value.ownBlock]⟩
  ·skip
   have hA := HA.out
   clear HA
   simp [applyQ, applyRt] at hA
   obtain ⟨⟨q, z⟩, hq⟩ : ∃ q, giveR ⟨L, cr, du⟩ R tr am = q := ⟨_, rfl⟩
   rw [hq] at hA
   have hcall := fun W (hW : Keeps (fun _ => False) W4 W) => poolGive_any L R cr du tr am (some ⟨gb, 0, none⟩) (some ⟨gr, 0, none⟩) cb cr2 m W ((Reads.of_owns Hrb4.out).keeps hW (by simp)) HN.out hl ((Reads.of_owns Hrr4.out).keeps hW (by simp)) HRm.out
   rw [hq] at hcall
   simp only at hA hcall
   have p0 := cell_of_cells Hpb4.out 0
   have p1 := cell_of_cells Hpb4.out 1
   have p2 := cell_of_cells Hpb4.out 2
   have pl4 := lt_of_block Hpb4.out
   have e0 := cell_of_cells Hab4.out.e 0
   have e2 := cell_of_cells Hab4.out.e 2
   have e3 := cell_of_cells Hab4.out.e 3
   have el4 := lt_of_block Hab4.out.e
   obtain ⟨Hq, Hcall⟩ := hid2 hq hcall; clear hcall hq
   go_wp2_with fail
   refine (Hcall.out _ (Keeps.refl _ _)).mono ?_
   rintro e w5 ⟨v5, rfl, hrow5, hf5⟩
   obtain ⟨a5, m5, rfl⟩ : ∃ a c, v5 = .slice a q.bal.length c := by obtain ⟨a, c, h, _⟩ := ownsRow_shape hrow5; exact ⟨a, c, h⟩
   clear e0 e2 e3 el4 p0 p1 p2 pl4
   have hab5 := Hab4.out.keep0 hf5.1
   have hpb5 := box_old Hpb4.out hf5.1 (by simp)
   have hrr5 := Hrr4.out.of_keeps hf5.1
   obtain ⟨hpb6, k6⟩ := store3 hpb5 (.slice a5 q.bal.length m5) (.int .i64 q.cr) (.int .i64 q.du)
   have hab6 := hab5.keep k6
   have hg5 : ∀ i, (Value.slice a5 q.bal.length m5).ownBlock = some i → w.heap.size + 1 + 1 < i := fun i e => by have := hf5.2 i e; have := lt_of_block Hab4.out.r; omega
   have hrow6 := k6.row hrow5 (fun i hi e => by have e' : i = w.heap.size := e; have := hg5 i hi; omega)
   have hrr6 := k6.row hrr5 (fun i hi e => by have e' : i = w.heap.size := e; have := Hg2.out i hi; omega)
   have p0 := cell_of_cells hpb5 0
   have p1 := cell_of_cells hpb5 1
   have p2 := cell_of_cells hpb5 2
   have q0 := free_of_cells hpb5 0
   have q1 := free_of_cells hpb5 1
   have q2 := free_of_cells hpb5 2
   have pl := lt_of_block hpb5
   have r0 := cell_of_cells hab5.r 0
   have r1 := cell_of_cells hab5.r 1
   have r2 := cell_of_cells hab5.r 2
   have rf0 := free_of_cells hab5.r 0
   have rf1 := free_of_cells hab5.r 1
   have rf2 := free_of_cells hab5.r 2
   have rl := lt_of_block hab5.r
   by_cases hz0 : z = 0
   ·subst hz0
    rw [if_pos rfl] at hA
    subst hA
    have hS3 := store3 hab6.r (.slice a5 q.bal.length m5) (.int .i64 q.cr) (.int .i64 q.du)
    obtain ⟨hb9, k9⟩ := hS3
    have hkf := hab6.kp.trans (k9.mono fun i _ e => .inr (by have e' : i = w.heap.size + 1 + 1 := e; omega))
    have hrow9 := k9.row hrow6 (fun i hi e => by have e' : i = w.heap.size + 1 + 1 := e; have := hg5 i hi; omega)
    have hrr9 := k9.row hrr6 (fun i hi e => by have e' : i = w.heap.size + 1 + 1 := e; have := Hg2.out i hi; omega)
    have sr0 := cell_of_cells hb9 0
    have sr1 := cell_of_cells hb9 1
    have sr2 := cell_of_cells hb9 2
    obtain ⟨Hrow5, Hf5, Hab5, Hpb5, Hrr5, Hpb6, K6, Hab6, Hg5⟩ := hid9 hrow5 hf5 hab5 hpb5 hrr5 hpb6 k6 hab6 hg5; clear hg5 hab6 k6 hpb6 hrr5 hpb5 hab5 hf5 hrow5; obtain ⟨Hrow6, Hrr6, Hb9, K9, Hkf, Hrow9, Hrr9, Sr0, Sr1⟩ := hid9 hrow6 hrr6 hb9 k9 hkf hrow9 hrr9 sr0 sr1; clear sr1 sr0 hrr9 hrow9 hkf k9 hb9 hrr6 hrow6; have Sr2 := Lib.hid sr2; clear sr2
    go_wp2
    have R0' := Sr0.out
    have R1' := Sr1.out
    have R2' := Sr2.out
    clear r0 r1 r2 p0 p1 p2
    exact bodyPost_ret (v := .tuple #[.agg #[.slice a5 q.bal.length m5, .int .i64 q.cr, .int .i64 q.du], .slice (some ⟨gr, 0, none⟩) m cr2, .int .i64 0]) (by simp [results, Try.results59, go_sem, R0', R1', R2']) rfl ⟨_, _, rfl, Hrow9.out, by rw [HRm.out]; exact Hrr9.out, Hkf.out, fun i hi => by have := Hg5.out i hi; omega, fun i hi => by have := Hg2.out i hi; omega⟩
   ·rw [if_neg hz0] at hA
    subst hA
    have hz1 : (z != 0) = true := by simp [hz0]
    have hS3 := store3 hab6.r (.slice none 0 0) (.int .i64 0) (.int .i64 0)
    obtain ⟨hb9, k9⟩ := hS3
    have hkf := hab6.kp.trans (k9.mono fun i _ e => .inr (by have e' : i = w.heap.size + 1 + 1 := e; omega))
    have sr0 := cell_of_cells hb9 0
    have sr1 := cell_of_cells hb9 1
    have sr2 := cell_of_cells hb9 2
    obtain ⟨Hrow5, Hf5, Hab5, Hpb5, Hrr5, Hpb6, K6, Hab6, Hg5⟩ := hid9 hrow5 hf5 hab5 hpb5 hrr5 hpb6 k6 hab6 hg5; clear hg5 hab6 k6 hpb6 hrr5 hpb5 hab5 hf5 hrow5; obtain ⟨Hrow6, Hrr6, Hb9, K9, Hkf, Sr0, Sr1, Sr2, Hz0⟩ := hid9 hrow6 hrr6 hb9 k9 hkf sr0 sr1 sr2 hz0; clear hz0 sr2 sr1 sr0 hkf k9 hb9 hrr6 hrow6
    go_wp2
    have R0' := Sr0.out
    have R1' := Sr1.out
    have R2' := Sr2.out
    clear r0 r1 r2 p0 p1 p2
    exact bodyPost_ret (v := .tuple #[.agg #[.slice none 0 0, .int .i64 0, .int .i64 0], .slice none 0 0, .int .i64 z]) (by simp [results, Try.results59, go_sem, R0', R1', R2']) rfl ⟨_, _, rfl, World.ownsRow_nil _ _ _ _, World.ownsRow_nil _ _ _ _, Hkf.out, by simp [Value.ownBlock], by simp [Value.ownBlock]⟩
  ·skip
   have hA := HA.out
   clear HA
   simp [applyQ, applyRt] at hA
   obtain ⟨⟨q, z⟩, hq⟩ : ∃ q, giveR ⟨L, cr, du⟩ R tr am = q := ⟨_, rfl⟩
   rw [hq] at hA
   have hcall := fun W (hW : Keeps (fun _ => False) W4 W) => poolGive_any L R cr du tr am (some ⟨gb, 0, none⟩) (some ⟨gr, 0, none⟩) cb cr2 m W ((Reads.of_owns Hrb4.out).keeps hW (by simp)) HN.out hl ((Reads.of_owns Hrr4.out).keeps hW (by simp)) HRm.out
   rw [hq] at hcall
   simp only at hA hcall
   have p0 := cell_of_cells Hpb4.out 0
   have p1 := cell_of_cells Hpb4.out 1
   have p2 := cell_of_cells Hpb4.out 2
   have pl4 := lt_of_block Hpb4.out
   have e0 := cell_of_cells Hab4.out.e 0
   have e2 := cell_of_cells Hab4.out.e 2
   have e3 := cell_of_cells Hab4.out.e 3
   have el4 := lt_of_block Hab4.out.e
   obtain ⟨Hq, Hcall⟩ := hid2 hq hcall; clear hcall hq
   go_wp2_with fail
   refine (Hcall.out _ (Keeps.refl _ _)).mono ?_
   rintro e w5 ⟨v5, rfl, hrow5, hf5⟩
   obtain ⟨a5, m5, rfl⟩ : ∃ a c, v5 = .slice a q.bal.length c := by obtain ⟨a, c, h, _⟩ := ownsRow_shape hrow5; exact ⟨a, c, h⟩
   clear e0 e2 e3 el4 p0 p1 p2 pl4
   have hab5 := Hab4.out.keep0 hf5.1
   have hpb5 := box_old Hpb4.out hf5.1 (by simp)
   have hrr5 := Hrr4.out.of_keeps hf5.1
   obtain ⟨hpb6, k6⟩ := store3 hpb5 (.slice a5 q.bal.length m5) (.int .i64 q.cr) (.int .i64 q.du)
   have hab6 := hab5.keep k6
   have hg5 : ∀ i, (Value.slice a5 q.bal.length m5).ownBlock = some i → w.heap.size + 1 + 1 < i := fun i e => by have := hf5.2 i e; have := lt_of_block Hab4.out.r; omega
   have hrow6 := k6.row hrow5 (fun i hi e => by have e' : i = w.heap.size := e; have := hg5 i hi; omega)
   have hrr6 := k6.row hrr5 (fun i hi e => by have e' : i = w.heap.size := e; have := Hg2.out i hi; omega)
   have p0 := cell_of_cells hpb5 0
   have p1 := cell_of_cells hpb5 1
   have p2 := cell_of_cells hpb5 2
   have q0 := free_of_cells hpb5 0
   have q1 := free_of_cells hpb5 1
   have q2 := free_of_cells hpb5 2
   have pl := lt_of_block hpb5
   have r0 := cell_of_cells hab5.r 0
   have r1 := cell_of_cells hab5.r 1
   have r2 := cell_of_cells hab5.r 2
   have rf0 := free_of_cells hab5.r 0
   have rf1 := free_of_cells hab5.r 1
   have rf2 := free_of_cells hab5.r 2
   have rl := lt_of_block hab5.r
   by_cases hz0 : z = 0
   ·subst hz0
    rw [if_pos rfl] at hA
    subst hA
    have hS3 := store3 hab6.r (.slice a5 q.bal.length m5) (.int .i64 q.cr) (.int .i64 q.du)
    obtain ⟨hb9, k9⟩ := hS3
    have hkf := hab6.kp.trans (k9.mono fun i _ e => .inr (by have e' : i = w.heap.size + 1 + 1 := e; omega))
    have hrow9 := k9.row hrow6 (fun i hi e => by have e' : i = w.heap.size + 1 + 1 := e; have := hg5 i hi; omega)
    have hrr9 := k9.row hrr6 (fun i hi e => by have e' : i = w.heap.size + 1 + 1 := e; have := Hg2.out i hi; omega)
    have sr0 := cell_of_cells hb9 0
    have sr1 := cell_of_cells hb9 1
    have sr2 := cell_of_cells hb9 2
    obtain ⟨Hrow5, Hf5, Hab5, Hpb5, Hrr5, Hpb6, K6, Hab6, Hg5⟩ := hid9 hrow5 hf5 hab5 hpb5 hrr5 hpb6 k6 hab6 hg5; clear hg5 hab6 k6 hpb6 hrr5 hpb5 hab5 hf5 hrow5; obtain ⟨Hrow6, Hrr6, Hb9, K9, Hkf, Hrow9, Hrr9, Sr0, Sr1⟩ := hid9 hrow6 hrr6 hb9 k9 hkf hrow9 hrr9 sr0 sr1; clear sr1 sr0 hrr9 hrow9 hkf k9 hb9 hrr6 hrow6; have Sr2 := Lib.hid sr2; clear sr2
    go_wp2
    have R0' := Sr0.out
    have R1' := Sr1.out
    have R2' := Sr2.out
    clear r0 r1 r2 p0 p1 p2
    exact bodyPost_ret (v := .tuple #[.agg #[.slice a5 q.bal.length m5, .int .i64 q.cr, .int .i64 q.du], .slice (some ⟨gr, 0, none⟩) m cr2, .int .i64 0]) (by simp [results, Try.results59, go_sem, R0', R1', R2']) rfl ⟨_, _, rfl, Hrow9.out, by rw [HRm.out]; exact Hrr9.out, Hkf.out, fun i hi => by have := Hg5.out i hi; omega, fun i hi => by have := Hg2.out i hi; omega⟩
   ·rw [if_neg hz0] at hA
    subst hA
    have hz1 : (z != 0) = true := by simp [hz0]
    have hS3 := store3 hab6.r (.slice none 0 0) (.int .i64 0) (.int .i64 0)
    obtain ⟨hb9, k9⟩ := hS3
    have hkf := hab6.kp.trans (k9.mono fun i _ e => .inr (by have e' : i = w.heap.size + 1 + 1 := e; omega))
    have sr0 := cell_of_cells hb9 0
    have sr1 := cell_of_cells hb9 1
    have sr2 := cell_of_cells hb9 2
    obtain ⟨Hrow5, Hf5, Hab5, Hpb5, Hrr5, Hpb6, K6, Hab6, Hg5⟩ := hid9 hrow5 hf5 hab5 hpb5 hrr5 hpb6 k6 hab6 hg5; clear hg5 hab6 k6 hpb6 hrr5 hpb5 hab5 hf5 hrow5; obtain ⟨Hrow6, Hrr6, Hb9, K9, Hkf, Sr0, Sr1, Sr2, Hz0⟩ := hid9 hrow6 hrr6 hb9 k9 hkf sr0 sr1 sr2 hz0; clear hz0 sr2 sr1 sr0 hkf k9 hb9 hrr6 hrow6
    go_wp2
    have R0' := Sr0.out
    have R1' := Sr1.out
    have R2' := Sr2.out
    clear r0 r1 r2 p0 p1 p2
    exact bodyPost_ret (v := .tuple #[.agg #[.slice none 0 0, .int .i64 0, .int .i64 0], .slice none 0 0, .int .i64 z]) (by simp [results, Try.results59, go_sem, R0', R1', R2']) rfl ⟨_, _, rfl, World.ownsRow_nil _ _ _ _, World.ownsRow_nil _ _ _ _, Hkf.out, by simp [Value.ownBlock], by simp [Value.ownBlock]⟩
  ·skip
   have hA := HA.out
   clear HA
   simp [applyQ, applyRt] at hA
   obtain ⟨⟨q, z⟩, hq⟩ : ∃ q, chargeR ⟨L, cr, du⟩ tr am = q := ⟨_, rfl⟩
   rw [hq] at hA
   have hcall := fun W (hW : Keeps (fun _ => False) W4 W) => poolCharge_any L cr du tr am (some ⟨gb, 0, none⟩) cb m W ((Reads.of_owns Hrb4.out).keeps hW (by simp)) HN.out hl
   rw [hq] at hcall
   simp only at hA hcall
   have p0 := cell_of_cells Hpb4.out 0
   have p1 := cell_of_cells Hpb4.out 1
   have p2 := cell_of_cells Hpb4.out 2
   have pl4 := lt_of_block Hpb4.out
   have e0 := cell_of_cells Hab4.out.e 0
   have e2 := cell_of_cells Hab4.out.e 2
   have e3 := cell_of_cells Hab4.out.e 3
   have el4 := lt_of_block Hab4.out.e
   obtain ⟨Hq, Hcall⟩ := hid2 hq hcall; clear hcall hq
   go_wp2_with fail
   refine (Hcall.out _ (Keeps.refl _ _)).mono ?_
   rintro e w5 ⟨v5, rfl, hrow5, hf5⟩
   obtain ⟨a5, m5, rfl⟩ : ∃ a c, v5 = .slice a q.bal.length c := by obtain ⟨a, c, h, _⟩ := ownsRow_shape hrow5; exact ⟨a, c, h⟩
   clear e0 e2 e3 el4 p0 p1 p2 pl4
   have hab5 := Hab4.out.keep0 hf5.1
   have hpb5 := box_old Hpb4.out hf5.1 (by simp)
   have hrr5 := Hrr4.out.of_keeps hf5.1
   obtain ⟨hpb6, k6⟩ := store3 hpb5 (.slice a5 q.bal.length m5) (.int .i64 q.cr) (.int .i64 q.du)
   have hab6 := hab5.keep k6
   have hg5 : ∀ i, (Value.slice a5 q.bal.length m5).ownBlock = some i → w.heap.size + 1 + 1 < i := fun i e => by have := hf5.2 i e; have := lt_of_block Hab4.out.r; omega
   have hrow6 := k6.row hrow5 (fun i hi e => by have e' : i = w.heap.size := e; have := hg5 i hi; omega)
   have hrr6 := k6.row hrr5 (fun i hi e => by have e' : i = w.heap.size := e; have := Hg2.out i hi; omega)
   have p0 := cell_of_cells hpb5 0
   have p1 := cell_of_cells hpb5 1
   have p2 := cell_of_cells hpb5 2
   have q0 := free_of_cells hpb5 0
   have q1 := free_of_cells hpb5 1
   have q2 := free_of_cells hpb5 2
   have pl := lt_of_block hpb5
   have r0 := cell_of_cells hab5.r 0
   have r1 := cell_of_cells hab5.r 1
   have r2 := cell_of_cells hab5.r 2
   have rf0 := free_of_cells hab5.r 0
   have rf1 := free_of_cells hab5.r 1
   have rf2 := free_of_cells hab5.r 2
   have rl := lt_of_block hab5.r
   by_cases hz0 : z = 0
   ·subst hz0
    rw [if_pos rfl] at hA
    subst hA
    have hS3 := store3 hab6.r (.slice a5 q.bal.length m5) (.int .i64 q.cr) (.int .i64 q.du)
    obtain ⟨hb9, k9⟩ := hS3
    have hkf := hab6.kp.trans (k9.mono fun i _ e => .inr (by have e' : i = w.heap.size + 1 + 1 := e; omega))
    have hrow9 := k9.row hrow6 (fun i hi e => by have e' : i = w.heap.size + 1 + 1 := e; have := hg5 i hi; omega)
    have hrr9 := k9.row hrr6 (fun i hi e => by have e' : i = w.heap.size + 1 + 1 := e; have := Hg2.out i hi; omega)
    have sr0 := cell_of_cells hb9 0
    have sr1 := cell_of_cells hb9 1
    have sr2 := cell_of_cells hb9 2
    obtain ⟨Hrow5, Hf5, Hab5, Hpb5, Hrr5, Hpb6, K6, Hab6, Hg5⟩ := hid9 hrow5 hf5 hab5 hpb5 hrr5 hpb6 k6 hab6 hg5; clear hg5 hab6 k6 hpb6 hrr5 hpb5 hab5 hf5 hrow5; obtain ⟨Hrow6, Hrr6, Hb9, K9, Hkf, Hrow9, Hrr9, Sr0, Sr1⟩ := hid9 hrow6 hrr6 hb9 k9 hkf hrow9 hrr9 sr0 sr1; clear sr1 sr0 hrr9 hrow9 hkf k9 hb9 hrr6 hrow6; have Sr2 := Lib.hid sr2; clear sr2
    go_wp2
    have R0' := Sr0.out
    have R1' := Sr1.out
    have R2' := Sr2.out
    clear r0 r1 r2 p0 p1 p2
    exact bodyPost_ret (v := .tuple #[.agg #[.slice a5 q.bal.length m5, .int .i64 q.cr, .int .i64 q.du], .slice (some ⟨gr, 0, none⟩) m cr2, .int .i64 0]) (by simp [results, Try.results59, go_sem, R0', R1', R2']) rfl ⟨_, _, rfl, Hrow9.out, by rw [HRm.out]; exact Hrr9.out, Hkf.out, fun i hi => by have := Hg5.out i hi; omega, fun i hi => by have := Hg2.out i hi; omega⟩
   ·rw [if_neg hz0] at hA
    subst hA
    have hz1 : (z != 0) = true := by simp [hz0]
    have hS3 := store3 hab6.r (.slice none 0 0) (.int .i64 0) (.int .i64 0)
    obtain ⟨hb9, k9⟩ := hS3
    have hkf := hab6.kp.trans (k9.mono fun i _ e => .inr (by have e' : i = w.heap.size + 1 + 1 := e; omega))
    have sr0 := cell_of_cells hb9 0
    have sr1 := cell_of_cells hb9 1
    have sr2 := cell_of_cells hb9 2
    obtain ⟨Hrow5, Hf5, Hab5, Hpb5, Hrr5, Hpb6, K6, Hab6, Hg5⟩ := hid9 hrow5 hf5 hab5 hpb5 hrr5 hpb6 k6 hab6 hg5; clear hg5 hab6 k6 hpb6 hrr5 hpb5 hab5 hf5 hrow5; obtain ⟨Hrow6, Hrr6, Hb9, K9, Hkf, Sr0, Sr1, Sr2, Hz0⟩ := hid9 hrow6 hrr6 hb9 k9 hkf sr0 sr1 sr2 hz0; clear hz0 sr2 sr1 sr0 hkf k9 hb9 hrr6 hrow6
    go_wp2
    have R0' := Sr0.out
    have R1' := Sr1.out
    have R2' := Sr2.out
    clear r0 r1 r2 p0 p1 p2
    exact bodyPost_ret (v := .tuple #[.agg #[.slice none 0 0, .int .i64 0, .int .i64 0], .slice none 0 0, .int .i64 z]) (by simp [results, Try.results59, go_sem, R0', R1', R2']) rfl ⟨_, _, rfl, World.ownsRow_nil _ _ _ _, World.ownsRow_nil _ _ _ _, Hkf.out, by simp [Value.ownBlock], by simp [Value.ownBlock]⟩
  ·have hA := HA.out
   clear HA
   simp [applyQ, applyRt] at hA
   subst hA
   obtain ⟨t0, t1⟩ := htr (by decide)
   obtain ⟨a0, a1⟩ := ham rfl
   clear htr ham
   rw [HRm.out] at t1
   obtain ⟨i, hi⟩ : ∃ i : Nat, (i : Int) = tr - 1 := ⟨(tr - 1).toNat, by omega⟩
   have hin : i < m := by omega
   have hit : (tr - 1).toNat = i := by omega
   have hit2 : tr.toNat - 1 = i := by omega
   have hrz : RowZ W4 2 gr m cr2 R := ⟨Hrr4.out, HRm.out⟩
   obtain ⟨x, hx⟩ := get_some (L := R) (k := i) (by rw [HRm.out]; exact hin)
   have cx := hrz.cell hx
   have fx := hrz.free i
   have lx := hrz.lt
   have hnew := hrz.set hin am
   have k5 : Keeps (fun j => j = gr) W4 (W4.setCell ⟨gr, i, none⟩ (.int .i64 am)) := Keeps.setCell _ _ _ rfl
   have hgrb : ¬ w.heap.size = gr := fun e => by have := Hg2.out gr rfl; omega
   have hgre : ¬ w.heap.size + 1 = gr := fun e => by have := Hg2.out gr rfl; omega
   have hgrr : ¬ w.heap.size + 1 + 1 = gr := fun e => by have := Hg2.out gr rfl; omega
   have hab5 : AB #[.int .i64 6, .int .i64 da, .int .i64 tr, .int .i64 am, .int .i64 re] w (W4.setCell ⟨gr, i, none⟩ (.int .i64 am)) := ⟨box_old Hab4.out.e k5 hgre, box_old Hab4.out.r k5 hgrr, Hab4.out.kp.trans (k5.mono fun j _ e => .inr (by have e' : j = gr := e; have := Hg2.out gr rfl; omega))⟩
   have hpb5 := box_old Hpb4.out k5 hgrb
   have hrb5 := k5.row Hrb4.out (fun j hj e => by have e' : j = gr := e; simp only [Value.ownBlock, Option.some.injEq] at hj; exact Hg23.out (by omega))
   have p0 := cell_of_cells Hpb4.out 0
   have p1 := cell_of_cells Hpb4.out 1
   have p2 := cell_of_cells Hpb4.out 2
   have pl4 := lt_of_block Hpb4.out
   have e0 := cell_of_cells Hab4.out.e 0
   have e2 := cell_of_cells Hab4.out.e 2
   have e3 := cell_of_cells Hab4.out.e 3
   have el4 := lt_of_block Hab4.out.e
   have r0 := cell_of_cells Hab4.out.r 0
   have r1 := cell_of_cells Hab4.out.r 1
   have r2 := cell_of_cells Hab4.out.r 2
   have rf0 := free_of_cells Hab4.out.r 0
   have rf1 := free_of_cells Hab4.out.r 1
   have rf2 := free_of_cells Hab4.out.r 2
   have rl := lt_of_block Hab4.out.r
   have q1 : (0 : Int) ≤ tr - 1 := by omega
   have q2 : tr - 1 < (m : Int) := by omega
   have q4 : IntKind.i64.wrap (tr - 1) = tr - 1 := IntWalk.i64_in _ ⟨by omega, by omega⟩
   have hgbr : ¬ gr = w.heap.size := fun e => hgrb e.symm
   have hgrr2 : ¬ gr = w.heap.size + 1 + 1 := fun e => hgrr e.symm
   have hS3 := store3 hab5.r (.slice (some ⟨gb, 0, none⟩) m cb) (.int .i64 cr) (.int .i64 du)
   obtain ⟨hb9, k9⟩ := hS3
   have hkf := hab5.kp.trans (k9.mono fun i _ e => .inr (by have e' : i = w.heap.size + 1 + 1 := e; omega))
   have hrow9 := k9.row hrb5 (fun i hi e => by have e' : i = w.heap.size + 1 + 1 := e; have := Hg3'.out i hi; omega)
   have hrr9 := k9.row hnew.1 (fun i hi e => by have e' : i = w.heap.size + 1 + 1 := e; simp only [Value.ownBlock, Option.some.injEq] at hi; omega)
   have sr0 := cell_of_cells hb9 0
   have sr1 := cell_of_cells hb9 1
   have sr2 := cell_of_cells hb9 2
   have hlen9 := hnew.2
   obtain ⟨Hrz, Hx, Hnew, K5, Hab5, Hpb5, Hrb5, Hb9, K9⟩ := hid9 hrz hx hnew k5 hab5 hpb5 hrb5 hb9 k9; clear k9 hb9 hrb5 hpb5 hab5 k5 hnew hx hrz; obtain ⟨Hkf, Hrow9, Hrr9, Sr0, Sr1, Sr2, Hlen9, Hi, Hit2⟩ := hid9 hkf hrow9 hrr9 sr0 sr1 sr2 hlen9 hi hit2; clear hit2 hi hlen9 sr2 sr1 sr0 hrr9 hrow9 hkf
   go_wp2
   have R0' := Sr0.out
   have R1' := Sr1.out
   have R2' := Sr2.out
   clear r0 r1 r2 p0 p1 p2
   exact bodyPost_ret (v := .tuple #[.agg #[.slice (some ⟨gb, 0, none⟩) m cb, .int .i64 cr, .int .i64 du], .slice (some ⟨gr, 0, none⟩) m cr2, .int .i64 0]) (by simp [results, Try.results59, go_sem, R0', R1', R2']) rfl ⟨_, _, rfl, by rw [HN.out]; exact Hrow9.out, by rw [Hit2.out, Hlen9.out]; exact Hrr9.out, Hkf.out, fun i hi => by have := Hg3'.out i hi; omega, fun i hi => by have := Hg2.out i hi; omega⟩
end Go.Proofs.Ythcmpcekmkioaaa
namespace Go.Proofs.Ythcmpcekmkioaaa
open Go.RowKit
theorem haltR {p : Prop} (h : Hid p) : p := h.out
def tbS (E : Nat) (t : Tm) (v : Value) (w : World) : Prop :=
 w.cell? ⟨E, 0, none⟩ = some (.int .i64 t.limit) ∧ w.cell? ⟨E, 1, none⟩ = some v ∧ w.cell? ⟨E, 2, none⟩ = some (.int .i64 t.cyc) ∧ w.cell? ⟨E, 3, none⟩ = some (.int .i64 t.due) ∧ w.cell? ⟨E, 4, none⟩ = some (.int .i64 t.minFixed) ∧ w.cell? ⟨E, 5, none⟩ = some (.int .i64 t.minPart) ∧ w.cell? ⟨E, 6, none⟩ = some (.int .i64 t.start)
theorem tbS.of {E : Nat} {t : Tm} {v : Value} {w : World} (hb : w.heap[E]? = some (.cells #[.int .i64 t.limit, v, .int .i64 t.cyc, .int .i64 t.due, .int .i64 t.minFixed, .int .i64 t.minPart, .int .i64 t.start] 24 (0, 0))) : tbS E t v w :=
 ⟨cell_of_cells hb 0, cell_of_cells hb 1, cell_of_cells hb 2, cell_of_cells hb 3, cell_of_cells hb 4, cell_of_cells hb 5, cell_of_cells hb 6⟩
theorem tbS.keep {E : Nat} {t : Tm} {v : Value} {w w' : World} (h : tbS E t v w) (hk : Keeps (fun _ => False) w w') : tbS E t v w' := by
 obtain ⟨h0, h1, h2, h3, h4, h5, h6⟩ := h
 exact ⟨(hk.cell (cell_lt h0) (by simp)).trans h0, (hk.cell (cell_lt h1) (by simp)).trans h1, (hk.cell (cell_lt h2) (by simp)).trans h2, (hk.cell (cell_lt h3) (by simp)).trans h3, (hk.cell (cell_lt h4) (by simp)).trans h4, (hk.cell (cell_lt h5) (by simp)).trans h5, (hk.cell (cell_lt h6) (by simp)).trans h6⟩
end Go.Proofs.Ythcmpcekmkioaaa
namespace Go.Proofs.Ythcmpcekmkioaaa
open Go.RowKit
def dy (X : List Ev) (t : Nat) : Int := match X[t]? with | some x => x.day | none => 0
theorem dy_of {X : List Ev} {t : Nat} {x : Ev} (h : X[t]? = some x) : dy X t = x.day := by unfold dy; rw [h]
theorem dy_congr {X Y : List Ev} {s t : Nat} (h : X[s]? = Y[t]?) : dy X s = dy Y t := by unfold dy; rw [h]
def Alike (X Y : List Ev) : Prop := ∀ k : Int, X.filter (fun x => decide (x.day = k)) = Y.filter (fun x => decide (x.day = k))
theorem Alike.refl (X : List Ev) : Alike X X := fun _ => rfl
theorem Alike.symm {X Y : List Ev} (h : Alike X Y) : Alike Y X := fun k => (h k).symm
theorem Alike.trans {X Y Z : List Ev} (h : Alike X Y) (h' : Alike Y Z) : Alike X Z := fun k => (h k).trans (h' k)
theorem Alike.app {X X' Y Y' : List Ev} (h : Alike X X') (h' : Alike Y Y') : Alike (X ++ Y) (X' ++ Y') := fun k => by rw [List.filter_append, List.filter_append, h k, h' k]
theorem Alike.mem {X Y : List Ev} (h : Alike X Y) {x : Ev} (hx : x ∈ X) : x ∈ Y := by
 have : x ∈ X.filter (fun y => decide (y.day = x.day)) := List.mem_filter.2 ⟨hx, by simp⟩
 rw [h] at this
 exact (List.mem_filter.1 this).1
theorem Alike.turn {U V : List Ev} (h : ∀ u ∈ U, ∀ v ∈ V, v.day < u.day) : Alike (V ++ U) (U ++ V) := by
 intro k
 rw [List.filter_append, List.filter_append]
 by_cases hU : ∃ u ∈ U, u.day = k
 ·obtain ⟨u, hu, rfl⟩ := hU
  have : V.filter (fun x => decide (x.day = u.day)) = [] := by
   rw [List.filter_eq_nil_iff]
   intro v hv
   have := h u hu v hv
   simp; omega
  rw [this]; simp
 ·have : U.filter (fun x => decide (x.day = k)) = [] := by
   rw [List.filter_eq_nil_iff]
   intro u hu
   simp only [decide_eq_true_eq]
   exact fun e => hU ⟨u, hu, e⟩
  rw [this]; simp
theorem Alike.cancel {P X Y S : List Ev} (h : Alike (P ++ X ++ S) (P ++ Y ++ S)) : Alike X Y := by
 intro k
 have := h k
 simp only [List.filter_append] at this
 exact List.append_cancel_left (List.append_cancel_right this)
def Upto (X : List Ev) (a b : Nat) : Prop := ∀ s t, a ≤ s → s < t → t < b → dy X s ≤ dy X t
theorem Upto.le {X : List Ev} {a b : Nat} (h : Upto X a b) {s t : Nat} (h1 : a ≤ s) (h2 : s ≤ t) (h3 : t < b) : dy X s ≤ dy X t := by
 rcases Nat.lt_or_ge s t with h4 | h4
 ·exact h s t h1 h4 h3
 ·obtain rfl : s = t := by omega
  exact Int.le_refl _
theorem Upto.sub {X : List Ev} {a b a' b' : Nat} (h : Upto X a b) (h1 : a ≤ a') (h2 : b' ≤ b) : Upto X a' b' := fun s t h3 h4 h5 => h s t (by omega) h4 (by omega)
theorem Upto.one {X : List Ev} {a b : Nat} (h : b ≤ a + 1) : Upto X a b := fun s t h1 h2 h3 => by omega
theorem Upto.eq {X Y : List Ev} {a b : Nat} (h : Upto X a b) (he : ∀ t, a ≤ t → t < b → Y[t]? = X[t]?) : Upto Y a b := fun s t h1 h2 h3 => by
 rw [dy_congr (he s h1 (by omega)), dy_congr (he t (by omega) h3)]; exact h s t h1 h2 h3
structure Turned (X Y : List Ev) (a b : Nat) : Prop where
 len : Y.length = X.length
 out : ∀ t, t < a ∨ b ≤ t → Y[t]? = X[t]?
 alike : Alike Y X
theorem Turned.refl (X : List Ev) (a b : Nat) : Turned X X a b := ⟨rfl, fun _ _ => rfl, Alike.refl _⟩
theorem Turned.trans {X Y Z : List Ev} {a b : Nat} (h : Turned X Y a b) (h' : Turned Y Z a b) : Turned X Z a b :=
 ⟨h'.len.trans h.len, fun t ht => (h'.out t ht).trans (h.out t ht), h'.alike.trans h.alike⟩
theorem Turned.wide {X Y : List Ev} {a b a' b' : Nat} (h : Turned X Y a b) (h1 : a' ≤ a) (h2 : b ≤ b') : Turned X Y a' b' := ⟨h.len, fun t ht => h.out t (by omega), h.alike⟩
theorem Turned.parts {X Y : List Ev} {a b : Nat} (h : Turned X Y a b) (hab : a ≤ b) (hb : b ≤ X.length) :
  ∃ P U V S, X = P ++ U ++ S ∧ Y = P ++ V ++ S ∧ P.length = a ∧ U.length = b - a ∧ V.length = b - a := by
 refine ⟨X.take a, (X.take b).drop a, (Y.take b).drop a, X.drop b, ?_, ?_, ?_, ?_, ?_⟩
 ·have : X.take a = (X.take b).take a := by rw [List.take_take, Nat.min_eq_left hab]
  rw [this, List.take_append_drop, List.take_append_drop]
 ·have h1 : X.take a = (Y.take b).take a := by
   rw [List.take_take, Nat.min_eq_left hab]
   refine List.ext_getElem? fun t => ?_
   rw [List.getElem?_take, List.getElem?_take]
   split
   ·exact (h.out t (.inl (by omega))).symm
   ·rfl
  have h2 : X.drop b = Y.drop b := by
   refine List.ext_getElem? fun t => ?_
   rw [List.getElem?_drop, List.getElem?_drop]
   exact (h.out _ (.inr (by omega))).symm
  rw [h1, h2, List.take_append_drop, List.take_append_drop]
 ·rw [List.length_take]; omega
 ·rw [List.length_drop, List.length_take]; omega
 ·rw [List.length_drop, List.length_take, h.len]; omega
theorem Turned.from {X Y : List Ev} {a b : Nat} (h : Turned X Y a b) (hb : b ≤ X.length) {t : Nat} (h1 : a ≤ t) (h2 : t < b) : ∃ s, a ≤ s ∧ s < b ∧ Y[t]? = X[s]? := by
 obtain ⟨P, U, V, S, rfl, rfl, rfl, hU, hV⟩ := h.parts (by omega) hb
 have hc := h.alike.cancel
 have ht : t - P.length < V.length := by omega
 have hm := hc.mem (List.getElem_mem ht)
 obtain ⟨i, hi, he⟩ := List.getElem_of_mem hm
 refine ⟨P.length + i, by omega, by omega, ?_⟩
 rw [List.append_assoc, List.append_assoc, List.getElem?_append_right (by omega), List.getElem?_append_left ht, List.getElem?_append_right (by omega), List.getElem?_append_left (by omega), Nat.add_sub_cancel_left, List.getElem?_eq_getElem ht, List.getElem?_eq_getElem hi, he]
theorem Turned.bound {X Y : List Ev} {a b : Nat} (h : Turned X Y a b) (hb : b ≤ X.length) {q : Int → Prop} (hq : ∀ t, a ≤ t → t < b → q (dy X t)) : ∀ t, a ≤ t → t < b → q (dy Y t) := fun t h1 h2 => by
 obtain ⟨s, h3, h4, h5⟩ := h.from hb h1 h2
 rw [dy_congr h5]; exact hq s h3 h4
def swp (X : List Ev) (i j : Nat) : List Ev := match X[i]?, X[j]? with | some x, some y => (X.set i y).set j x | _, _ => X
theorem swp_of {X : List Ev} {i j : Nat} {x y : Ev} (h1 : X[i]? = some x) (h2 : X[j]? = some y) : swp X i j = (X.set i y).set j x := by unfold swp; rw [h1, h2]
theorem swp_length (X : List Ev) (i j : Nat) : (swp X i j).length = X.length := by unfold swp; split <;> simp
theorem swp_get {X : List Ev} {i j : Nat} (hi : i < X.length) (hj : j < X.length) (t : Nat) : (swp X i j)[t]? = if t = j then X[i]? else if t = i then X[j]? else X[t]? := by
 rw [swp_of (List.getElem?_eq_getElem hi) (List.getElem?_eq_getElem hj), List.getElem?_set, List.getElem?_set]
 simp only [List.length_set]
 by_cases h1 : t = j
 ·subst h1; simp [hj, hi]
 ·rw [if_neg (fun e => h1 e.symm), if_neg h1]
  by_cases h2 : t = i
  ·subst h2; simp [hi, hj]
  ·rw [if_neg (fun e => h2 e.symm), if_neg h2]
theorem split_two {X : List Ev} {i : Nat} {x y : Ev} (h1 : X[i]? = some x) (h2 : X[i + 1]? = some y) : X = X.take i ++ [x, y] ++ X.drop (i + 2) := by
 obtain ⟨hl, rfl⟩ := List.getElem?_eq_some_iff.1 h1
 obtain ⟨hl2, rfl⟩ := List.getElem?_eq_some_iff.1 h2
 rw [List.append_assoc]
 show X = X.take i ++ (X[i] :: X[i + 1] :: X.drop (i + 1 + 1))
 rw [List.getElem_cons_drop, List.getElem_cons_drop, List.take_append_drop]
theorem swp_turned {X : List Ev} {i a b : Nat} (ha : a ≤ i) (hb : i + 2 ≤ b) (hl : i + 1 < X.length) (hd : dy X (i + 1) < dy X i) : Turned X (swp X i (i + 1)) a b := by
 refine ⟨swp_length _ _ _, fun t ht => ?_, ?_⟩
 ·rw [swp_get (by omega) hl, if_neg (by omega), if_neg (by omega)]
 ·have h1 : X[i]? = some X[i] := List.getElem?_eq_getElem (by omega)
  have h2 : X[i + 1]? = some X[i + 1] := List.getElem?_eq_getElem hl
  rw [dy_of h1, dy_of h2] at hd
  have hs := split_two h1 h2
  have e : swp X i (i + 1) = X.take i ++ [X[i + 1], X[i]] ++ X.drop (i + 2) := by
   refine List.ext_getElem? fun t => ?_
   rw [swp_get (by omega) hl]
   have hlt : (X.take i).length = i := by rw [List.length_take]; omega
   rcases Nat.lt_trichotomy t i with h | h | h
   ·rw [if_neg (by omega), if_neg (by omega), List.append_assoc, List.getElem?_append_left (by omega), List.getElem?_take_of_lt h]
   ·subst h
    rw [if_neg (by omega), if_pos rfl, List.append_assoc, List.getElem?_append_right (by omega), hlt, Nat.sub_self]; exact h2
   ·rcases Nat.lt_or_ge (i + 1) t with h' | h'
    ·rw [if_neg (by omega), if_neg (by omega), List.getElem?_append_right (by simp only [List.length_append, hlt, List.length_cons, List.length_nil]; omega), List.getElem?_drop]
     simp only [List.length_append, hlt, List.length_cons, List.length_nil]
     congr 1; omega
    ·obtain rfl : t = i + 1 := by omega
     rw [if_pos rfl, List.append_assoc, List.getElem?_append_right (by omega), hlt, Nat.add_sub_cancel_left]; exact h1
  rw [e]
  conv => rhs; rw [hs]
  refine Alike.app (Alike.app (Alike.refl _) ?_) (Alike.refl _)
  show Alike ([X[i + 1]] ++ [X[i]]) ([X[i]] ++ [X[i + 1]])
  exact Alike.turn (by simpa using hd)
theorem swp_comm (X : List Ev) (i : Nat) (hl : i + 1 < X.length) : swp X (i + 1) i = swp X i (i + 1) := by
 refine List.ext_getElem? fun t => ?_
 rw [swp_get hl (by omega), swp_get (by omega) hl]
 by_cases h : t = i
 ·subst h; rw [if_pos rfl, if_neg (by omega), if_pos rfl]
 ·rw [if_neg h, if_neg h]
theorem Alike.one : ∀ {X Y : List Ev}, Alike X Y → X.Pairwise (fun x y => x.day ≤ y.day) → Y.Pairwise (fun x y => x.day ≤ y.day) → X = Y
 | [], Y, h, _, _ => by
  cases Y with
  | nil => rfl
  | cons y Y => have := h.symm.mem (x := y) (by simp); simp at this
 | x :: X, Y, h, hX, hY => by
  cases Y with
  | nil => have := h.mem (x := x) (by simp); simp at this
  | cons y Y =>
   have e1 : y.day ≤ x.day := by
    have := h.mem (x := x) (by simp)
    rcases List.mem_cons.1 this with rfl | hm
    ·exact Int.le_refl _
    ·exact (List.pairwise_cons.1 hY).1 x hm
   have e2 : x.day ≤ y.day := by
    have := h.symm.mem (x := y) (by simp)
    rcases List.mem_cons.1 this with rfl | hm
    ·exact Int.le_refl _
    ·exact (List.pairwise_cons.1 hX).1 y hm
   have e : x.day = y.day := by omega
   have hk := h x.day
   rw [List.filter_cons, List.filter_cons, if_pos (by simp), if_pos (by simp [e])] at hk
   obtain ⟨rfl, _⟩ := List.cons.inj hk
   congr 1
   refine Alike.one (fun k => ?_) (List.pairwise_cons.1 hX).2 (List.pairwise_cons.1 hY).2
   have := h k
   rw [List.filter_cons, List.filter_cons] at this
   split at this
   ·exact (List.cons.inj this).2
   ·exact this
theorem Upto.pair {X : List Ev} (h : Upto X 0 X.length) : X.Pairwise (fun x y => x.day ≤ y.day) := by
 rw [List.pairwise_iff_getElem]
 intro i j hi hj hij
 have := h i j (Nat.zero_le _) hij hj
 rwa [dy_of (List.getElem?_eq_getElem hi), dy_of (List.getElem?_eq_getElem hj)] at this
structure Bs (p : Nat → Prop) (lo hi i j : Nat) : Prop where
 le : i ≤ j
 lo' : lo ≤ i
 hi' : j ≤ hi
 below : ∀ t, lo ≤ t → t < i → ¬ p t
 above : ∀ t, j ≤ t → t < hi → p t
theorem Bs.start {p : Nat → Prop} {lo hi : Nat} (h : lo ≤ hi) : Bs p lo hi lo hi := ⟨h, Nat.le_refl _, Nat.le_refl _, fun t _ _ => by omega, fun t _ _ => by omega⟩
theorem Bs.up {p : Nat → Prop} {lo hi i j h : Nat} (b : Bs p lo hi i j) (hm : ∀ s t, lo ≤ s → s ≤ t → t < hi → p s → p t) (h1 : i ≤ h) (h2 : h < j) (hp : ¬ p h) : Bs p lo hi (h + 1) j :=
 ⟨by omega, by have := b.lo'; omega, b.hi', fun t h3 h4 hpt => hp (hm t h h3 (by omega) (by have := b.hi'; omega) hpt), b.above⟩
theorem Bs.down {p : Nat → Prop} {lo hi i j h : Nat} (b : Bs p lo hi i j) (hm : ∀ s t, lo ≤ s → s ≤ t → t < hi → p s → p t) (h1 : i ≤ h) (h2 : h < j) (hp : p h) : Bs p lo hi i h :=
 ⟨h1, b.lo', by have := b.hi'; omega, b.below, fun t h3 h4 => hm h t (by have := b.lo'; omega) h3 h4 hp⟩
end Go.Proofs.Ythcmpcekmkioaaa
namespace Go.Proofs.Ythcmpcekmkioaaa
open Go.RowKit
def placeOf (day : Int) : List Ev → Nat → Nat
 | _, 0 => 0
 | L, n + 1 => match L[n]? with | some e => if day < e.day then placeOf day L n else n + 1 | none => n + 1
def putL (L : List Ev) (e : Ev) : List Ev := L.take (placeOf e.day L L.length) ++ [e] ++ L.drop (placeOf e.day L L.length)
theorem placeOf_le (day : Int) (L : List Ev) : ∀ n, placeOf day L n ≤ n
 | 0 => by cases L <;> exact Nat.le_refl _
 | n + 1 => by
  unfold placeOf
  split
  ·split
   ·exact Nat.le_succ_of_le (placeOf_le day L n)
   ·exact Nat.le_refl _
  ·exact Nat.le_refl _
theorem putL_length (L : List Ev) (e : Ev) : (putL L e).length = L.length + 1 := by
 have := placeOf_le e.day L L.length
 simp only [putL, List.length_append, List.length_take, List.length_drop, List.length_cons, List.length_nil]; omega
theorem placeOf_spec (day : Int) (L : List Ev) : ∀ n, n ≤ L.length → (∀ t, placeOf day L n ≤ t → t < n → day < dy L t) ∧ (∀ p, placeOf day L n = p + 1 → dy L p ≤ day)
 | 0, _ => ⟨fun t _ h => by omega, fun p h => by simp [placeOf] at h⟩
 | n + 1, hn => by
  have ih := placeOf_spec day L n (by omega)
  have hx : L[n]? = some L[n] := List.getElem?_eq_getElem (by omega)
  unfold placeOf
  rw [hx]
  simp only
  split
  ·rename_i h
   refine ⟨fun t h1 h2 => ?_, ih.2⟩
   by_cases he : t = n
   ·subst he; rw [dy_of hx]; exact h
   ·exact ih.1 t h1 (by omega)
  ·rename_i h
   refine ⟨fun t h1 h2 => by omega, fun p h1 => ?_⟩
   obtain rfl : p = n := by omega
   rw [dy_of hx]; omega
def Sorted (L : List Ev) : Prop := L.Pairwise (fun x y => x.day ≤ y.day)
theorem Sorted.upto {L : List Ev} (h : Sorted L) : Upto L 0 L.length := fun s t _ h1 h2 => by
 rw [dy_of (List.getElem?_eq_getElem (show s < L.length by omega)), dy_of (List.getElem?_eq_getElem h2)]
 exact List.pairwise_iff_getElem.1 h s t (by omega) h2 h1
theorem putL_parts {L : List Ev} (hs : Sorted L) (e : Ev) : (∀ x ∈ L.take (placeOf e.day L L.length), x.day ≤ e.day) ∧ (∀ x ∈ L.drop (placeOf e.day L L.length), e.day < x.day) := by
 obtain ⟨h1, h2⟩ := placeOf_spec e.day L L.length (Nat.le_refl _)
 have hle := placeOf_le e.day L L.length
 refine ⟨fun x hx => ?_, fun x hx => ?_⟩
 ·obtain ⟨i, hi, he⟩ := List.getElem_of_mem hx
  rw [List.length_take] at hi
  obtain ⟨p, hp⟩ : ∃ p, placeOf e.day L L.length = p + 1 := ⟨placeOf e.day L L.length - 1, by omega⟩
  have h3 := h2 p hp
  have h4 := hs.upto.le (s := i) (t := p) (Nat.zero_le _) (by omega) (by omega)
  rw [List.getElem_take] at he
  rw [dy_of (List.getElem?_eq_getElem (show i < L.length by omega)), he] at h4
  omega
 ·obtain ⟨i, hi, he⟩ := List.getElem_of_mem hx
  rw [List.length_drop] at hi
  rw [List.getElem_drop] at he
  have h3 := h1 (placeOf e.day L L.length + i) (by omega) (by omega)
  rwa [dy_of (List.getElem?_eq_getElem (show placeOf e.day L L.length + i < L.length by omega)), he] at h3
theorem putL_sorted {L : List Ev} (hs : Sorted L) (e : Ev) : Sorted (putL L e) := by
 obtain ⟨h1, h2⟩ := putL_parts hs e
 unfold putL Sorted
 rw [List.append_assoc, List.pairwise_append]
 refine ⟨hs.sublist (List.take_sublist _ _), ?_, fun x hx y hy => ?_⟩
 ·show List.Pairwise _ (e :: _)
  rw [List.pairwise_cons]
  exact ⟨fun x hx => by have := h2 x hx; omega, hs.sublist (List.drop_sublist _ _)⟩
 ·have := h1 x hx
  rcases List.mem_cons.1 (show y ∈ e :: _ from hy) with rfl | hy
  ·exact this
  ·have := h2 y hy; omega
theorem putL_alike {L : List Ev} (hs : Sorted L) (e : Ev) : Alike (putL L e) (L ++ [e]) := by
 obtain ⟨h1, h2⟩ := putL_parts hs e
 have : L ++ [e] = L.take (placeOf e.day L L.length) ++ (L.drop (placeOf e.day L L.length) ++ [e]) := by rw [← List.append_assoc, List.take_append_drop]
 rw [this]
 unfold putL
 rw [List.append_assoc]
 exact Alike.app (Alike.refl _) (Alike.turn fun u hu v hv => by simp only [List.mem_singleton] at hv; subst hv; exact h2 u hu)
def sortL (L : List Ev) : List Ev := L.foldl putL []
theorem sortL_fold : ∀ (L A B : List Ev), Sorted A → Alike A B → Sorted (L.foldl putL A) ∧ Alike (L.foldl putL A) (B ++ L)
 | [], A, B, h1, h2 => by simpa using ⟨h1, h2⟩
 | e :: L, A, B, h1, h2 => by
  have := sortL_fold L (putL A e) (B ++ [e]) (putL_sorted h1 e) ((putL_alike h1 e).trans (h2.app (Alike.refl _)))
  simpa using this
theorem sortL_spec (L : List Ev) : Sorted (sortL L) ∧ Alike (sortL L) L := by
 exact sortL_fold L [] [] List.Pairwise.nil (Alike.refl _)
theorem sortL_one {L X : List Ev} (h1 : Sorted X) (h2 : Alike X L) : X = sortL L := (h2.trans (sortL_spec L).2.symm).one h1 (sortL_spec L).1
theorem sortL_snoc (L : List Ev) (e : Ev) : sortL (L ++ [e]) = putL (sortL L) e := by unfold sortL; rw [List.foldl_append]; rfl
theorem sortL_length (L : List Ev) : (sortL L).length = L.length := by
 have : ∀ (L A : List Ev), (L.foldl putL A).length = A.length + L.length := by
  intro L
  induction L with
  | nil => intro A; rfl
  | cons e L ih => intro A; rw [List.foldl_cons, ih, putL_length, List.length_cons]; omega
 have := this L []
 rw [List.length_nil, Nat.zero_add] at this
 exact this
end Go.Proofs.Ythcmpcekmkioaaa
namespace Go.Proofs.Ythcmpcekmkioaaa
open Go.RowKit
def rateQ (tr : Int) (e : Ev) : Bool := e.kind == 6 && e.tranche == tr
def rateStep (tr day : Int) (s : Int × Int) (e : Ev) : Int × Int := if e.kind = 6 ∧ e.tranche = tr ∧ e.day ≤ day ∧ s.2 ≤ e.day then (e.amount, e.day) else s
def rateAt (r0 st : Int) (L : List Ev) (tr day : Int) : Int := (L.foldl (rateStep tr day) (r0, st)).1
def turnsL (L : List Ev) (tr : Int) : List Ev := sortL (L.filter (rateQ tr))
def upTo (day : Int) (T : List Ev) : List Ev := T.filter (fun x => decide (x.day ≤ day))
def lastR (r0 st : Int) (P : List Ev) : Int × Int := match P.getLast? with | none => (r0, st) | some x => (x.amount, x.day)
theorem lastR_snoc (r0 st : Int) (P : List Ev) (x : Ev) : lastR r0 st (P ++ [x]) = (x.amount, x.day) := by simp [lastR]
theorem lastR_app (r0 st : Int) (P Q : List Ev) (h : Q ≠ []) : lastR r0 st (P ++ Q) = lastR r0 st Q := by
 obtain ⟨x, hx⟩ : ∃ x, Q.getLast? = some x := ⟨Q.getLast h, List.getLast?_eq_some_getLast h⟩
 simp [lastR, List.getLast?_append, hx]
theorem lastR_mem {r0 st : Int} {P : List Ev} (h : P ≠ []) : ∃ x ∈ P, lastR r0 st P = (x.amount, x.day) :=
 ⟨P.getLast h, List.getLast_mem h, by simp [lastR, List.getLast?_eq_some_getLast h]⟩
theorem upTo_app (day : Int) (A B : List Ev) : upTo day (A ++ B) = upTo day A ++ upTo day B := List.filter_append ..
theorem upTo_put_no {day : Int} {T : List Ev} {e : Ev} (h : ¬ e.day ≤ day) : upTo day (putL T e) = upTo day T := by
 unfold putL
 rw [upTo_app, upTo_app, List.append_assoc]
 have : upTo day [e] = [] := by simp [upTo, h]
 rw [this, List.nil_append, ← upTo_app, List.take_append_drop]
theorem lastR_put {r0 st day : Int} {T : List Ev} (hs : Sorted T) {e : Ev} (h : e.day ≤ day) (hst : st ≤ e.day) :
  lastR r0 st (upTo day (putL T e)) = if (lastR r0 st (upTo day T)).2 ≤ e.day then (e.amount, e.day) else lastR r0 st (upTo day T) := by
 obtain ⟨h1, h2⟩ := putL_parts hs e
 have hT : upTo day T = upTo day (T.take (placeOf e.day T T.length)) ++ upTo day (T.drop (placeOf e.day T T.length)) := by rw [← upTo_app, List.take_append_drop]
 have hE : upTo day [e] = [e] := by simp [upTo, h]
 unfold putL
 rw [upTo_app, upTo_app, hE, hT]
 by_cases hd : upTo day (T.drop (placeOf e.day T T.length)) = []
 ·rw [hd, List.append_nil, List.append_nil, lastR_snoc]
  have hle : (lastR r0 st (upTo day (T.take (placeOf e.day T T.length)))).2 ≤ e.day := by
   by_cases hp : upTo day (T.take (placeOf e.day T T.length)) = []
   ·rw [hp]; exact hst
   ·obtain ⟨x, hx, he⟩ := lastR_mem (r0 := r0) (st := st) hp
    rw [he]
    exact h1 x (List.mem_filter.1 hx).1
  rw [if_pos hle]
 ·rw [lastR_app _ _ _ _ hd, lastR_app _ _ _ _ hd]
  obtain ⟨x, hx, he⟩ := lastR_mem (r0 := r0) (st := st) hd
  have := h2 x (List.mem_filter.1 hx).1
  rw [if_neg (by rw [he]; show ¬ x.day ≤ e.day; omega)]
theorem turnsL_sorted (L : List Ev) (tr : Int) : Sorted (turnsL L tr) := (sortL_spec _).1
theorem rate_fold (r0 st tr day : Int) (L : List Ev) (h : ∀ x ∈ L, st ≤ x.day) : ∀ n, n ≤ L.length → (L.take n).foldl (rateStep tr day) (r0, st) = lastR r0 st (upTo day (turnsL (L.take n) tr))
 | 0, _ => rfl
 | n + 1, hn => by
  have ih := rate_fold r0 st tr day L h n (by omega)
  have hx : L[n]? = some L[n] := List.getElem?_eq_getElem (by omega)
  have hst := h L[n] (List.getElem_mem (by omega))
  have htk : L.take (n + 1) = L.take n ++ [L[n]] := by rw [List.take_add_one, hx]; rfl
  rw [htk, List.foldl_append, ih]
  simp only [List.foldl_cons, List.foldl_nil]
  unfold turnsL at ih ⊢
  rw [List.filter_append]
  obtain ⟨e, he⟩ : ∃ e, L[n] = e := ⟨_, rfl⟩
  rw [he] at hst ⊢
  by_cases hq : rateQ tr e = true
  ·have hf : [e].filter (rateQ tr) = [e] := by simp [hq]
   rw [hf, sortL_snoc]
   have hq2 : e.kind = 6 ∧ e.tranche = tr := by simpa [rateQ] using hq
   by_cases hd : e.day ≤ day
   ·rw [lastR_put (sortL_spec _).1 hd hst]
    unfold rateStep
    simp only [hq2.1, hq2.2, hd, true_and]
   ·rw [upTo_put_no hd]
    unfold rateStep
    rw [if_neg (fun h => hd h.2.2.1)]
  ·have hf : [e].filter (rateQ tr) = [] := by simp [hq]
   rw [hf, List.append_nil]
   unfold rateStep
   rw [if_neg (fun h => hq (by simp [rateQ, h.1, h.2.1]))]
def rrAt (r0 : Int) (T : List Ev) (k : Nat) : Int := (lastR r0 0 (T.take k)).1
theorem rrAt_zero (r0 : Int) (T : List Ev) : rrAt r0 T 0 = r0 := rfl
theorem rrAt_succ (r0 : Int) {T : List Ev} {k : Nat} {x : Ev} (h : T[k]? = some x) : rrAt r0 T (k + 1) = x.amount := by
 have htk : T.take (k + 1) = T.take k ++ [x] := by rw [List.take_add_one, h]; rfl
 unfold rrAt
 rw [htk, lastR_snoc]
theorem upTo_take {T : List Ev} (hs : Sorted T) {day : Int} {k : Nat} (h1 : ∀ j x, j < k → T[j]? = some x → x.day ≤ day) (h2 : ∀ x, T[k]? = some x → day < x.day) : upTo day T = T.take k := by
 have hT : T = T.take k ++ T.drop k := (List.take_append_drop k T).symm
 have e1 : upTo day (T.take k) = T.take k := List.filter_eq_self.2 fun x hx => by
  obtain ⟨i, hi, he⟩ := List.getElem_of_mem hx
  rw [List.length_take] at hi
  rw [List.getElem_take] at he
  have := h1 i x (by omega) (by rw [List.getElem?_eq_getElem (by omega), he])
  simp [this]
 have e2 : upTo day (T.drop k) = [] := List.filter_eq_nil_iff.2 fun x hx => by
  obtain ⟨i, hi, he⟩ := List.getElem_of_mem hx
  rw [List.length_drop] at hi
  rw [List.getElem_drop] at he
  have h3 := h2 T[k] (List.getElem?_eq_getElem (by omega))
  have h4 := hs.upto.le (s := k) (t := k + i) (Nat.zero_le _) (by omega) (by omega)
  rw [dy_of (List.getElem?_eq_getElem (show k < T.length by omega)), dy_of (List.getElem?_eq_getElem (show k + i < T.length by omega)), he] at h4
  simp; omega
 conv => lhs; rw [hT, upTo_app, e1, e2, List.append_nil]
theorem rate_walk {r0 st tr day : Int} {L : List Ev} (h : ∀ x ∈ L, st ≤ x.day) {k : Nat} (h1 : ∀ j x, j < k → (turnsL L tr)[j]? = some x → x.day ≤ day) (h2 : ∀ x, (turnsL L tr)[k]? = some x → day < x.day) : rateAt r0 st L tr day = rrAt r0 (turnsL L tr) k := by
 have := rate_fold r0 st tr day L h L.length (Nat.le_refl _)
 rw [List.take_length] at this
 unfold rateAt rrAt
 rw [this, upTo_take (turnsL_sorted L tr) h1 h2]
 unfold lastR
 rcases ((turnsL L tr).take k).getLast? with _ | x <;> rfl
def daysL (r0 st : Int) (L : List Ev) (tr fr : Int) (n : Nat) : List Int := (List.range n).map fun j : Nat => rateAt r0 st L tr (fr + j)
theorem daysL_length (r0 st : Int) (L : List Ev) (tr fr : Int) (n : Nat) : (daysL r0 st L tr fr n).length = n := by simp [daysL]
theorem daysL_snoc (r0 st : Int) (L : List Ev) (tr fr : Int) (n : Nat) : daysL r0 st L tr fr (n + 1) = daysL r0 st L tr fr n ++ [rateAt r0 st L tr (fr + n)] := by simp [daysL, List.range_succ]
theorem daysL_get (r0 st : Int) (L : List Ev) (tr fr : Int) {n j : Nat} (h : j < n) : (daysL r0 st L tr fr n)[j]? = some (rateAt r0 st L tr (fr + j)) := by simp [daysL, h]
def evsErr (t : Tm) : List Ev → Int
 | [] => 0
 | e :: L => if evErr t e = 0 then evsErr t L else evErr t e
theorem evsErr_ok {t : Tm} : ∀ {L : List Ev}, evsErr t L = 0 → ∀ x ∈ L, evErr t x = 0
 | [], _, x, hx => by simp at hx
 | e :: L, h, x, hx => by
  unfold evsErr at h
  by_cases h0 : evErr t e = 0
  ·rw [if_pos h0] at h
   rcases List.mem_cons.1 hx with rfl | hx
   ·exact h0
   ·exact evsErr_ok h x hx
  ·rw [if_neg h0] at h; exact absurd h h0
theorem evsErr_at {t : Tm} : ∀ {L : List Ev} {i : Nat} {x : Ev}, (∀ j y, j < i → L[j]? = some y → evErr t y = 0) → L[i]? = some x → ¬ evErr t x = 0 → evsErr t L = evErr t x
 | [], i, x, _, hx, _ => by simp at hx
 | e :: L, 0, x, _, hx, hn => by simp at hx; subst hx; unfold evsErr; rw [if_neg hn]
 | e :: L, i + 1, x, h, hx, hn => by
  unfold evsErr
  rw [if_pos (h 0 e (Nat.succ_pos _) rfl)]
  exact evsErr_at (fun j y hj hy => h (j + 1) y (Nat.succ_lt_succ hj) (by simpa using hy)) (by simpa using hx) hn
theorem evsErr_all {t : Tm} {L : List Ev} (h : ∀ x ∈ L, evErr t x = 0) : evsErr t L = 0 := by
 induction L with
 | nil => rfl
 | cons e L ih => unfold evsErr; rw [if_pos (h e (List.mem_cons_self ..))]; exact ih fun x hx => h x (List.mem_cons_of_mem _ hx)
def rightErr (t : Tm) (L : List Ev) : Int := if t.err = 0 then evsErr t L else 6
def trErr (t : Tm) (L : List Ev) (tr : Int) : Int := if rightErr t L = 0 then (if tr < 1 ∨ (t.trs.length : Int) < tr then 7 else 0) else rightErr t L
def daysErr (t : Tm) (L : List Ev) (tr fr te : Int) : Int :=
 if trErr t L tr = 0 then (if fr < t.start ∨ 2932896 < fr ∨ te < t.start ∨ 2932896 < te then 10 else if te < fr ∨ 40000 ≤ te - fr then 1 else 0) else trErr t L tr
def Tm.rate0 (t : Tm) (tr : Int) : Int := match t.trs[(tr - 1).toNat]? with | some x => x.rate | none => 0
def daysOf (t : Tm) (L : List Ev) (tr fr te : Int) : List Int := if daysErr t L tr fr te = 0 then daysL (t.rate0 tr) t.start L tr fr (te - fr + 1).toNat else []
theorem evErr_day {t : Tm} {e : Ev} (h : evErr t e = 0) : t.start ≤ e.day ∧ e.day ≤ 2932896 := by
 unfold evErr at h
 split at h
 ·cases h
 ·split at h
  ·cases h
  ·split at h
   ·cases h
   ·split at h
    ·cases h
    ·split at h
     ·cases h
     ·omega
theorem evErr_tm {t : Tm} {e : Ev} (h : evErr t e = 0) : t.err = 0 := by
 unfold evErr at h
 split at h
 ·cases h
 ·rename_i h0; omega
end Go.Proofs.Ythcmpcekmkioaaa
namespace Go.Proofs.Ythcmpcekmkioaaa
open Go.RowKit
def idxEv (q : Ev → Bool) (L : List Ev) : Option Nat := L.findIdx? q
theorem keeps_setCells (g : Nat) : ∀ (vs : List Value) (o : Nat) (w : World), Keeps (fun k => k = g) w (w.setCells g o vs)
 | [], _, _ => Keeps.refl _ _
 | v :: r, o, w => (Keeps.setCell (S := fun k => k = g) w ⟨g, o, none⟩ v rfl).trans ((keeps_setCells g r (o + 1) _).mono fun _ _ h => .inl h)
theorem owns_storeN {α : Type} {f : α → List Value} {size : Nat} {hf : ∀ x, (f x).length = size} {w : World} {base : Nat} {e : TypeId} {g cap n : Nat} {L : List α} (h : w.ownsRow base e size (.slice (some ⟨g, 0, none⟩) n cap) n (L.flatMap f)) (hl : L.length = n) {k : Nat} {x y : α} (hx : L[k]? = some x) (j : Nat) (hj : j < size)
  {u : Value} (hy : (f x).set j u = f y) : (w.setCell ⟨g, k * size + j, none⟩ u).ownsRow base e size (.slice (some ⟨g, 0, none⟩) n cap) n ((L.set k y).flatMap f) := by
 subst hl; exact owns_store hf h hx j hj hy
theorem owns_storeEv {w : World} {g cap n k : Nat} {L : List Ev} (h : w.ownsRow 0 54 5 (.slice (some ⟨g, 0, none⟩) n cap) n (L.flatMap Ev.cells)) (hl : L.length = n) (hk : k < n) (a b c d e : Int) :
  (((((w.setCell ⟨g, k * 5, none⟩ (.int .i64 a)).setCell ⟨g, k * 5 + 1, none⟩ (.int .i64 b)).setCell ⟨g, k * 5 + 2, none⟩ (.int .i64 c)).setCell ⟨g, k * 5 + 3, none⟩ (.int .i64 d)).setCell ⟨g, k * 5 + 4, none⟩ (.int .i64 e)).ownsRow 0 54 5 (.slice (some ⟨g, 0, none⟩) n cap) n ((L.set k ⟨a, b, c, d, e⟩).flatMap Ev.cells) := by
 obtain ⟨⟨a0, b0, c0, d0, e0⟩, hx⟩ := get_some (L := L) (k := k) (by omega)
 have s1 := owns_storeN (hf := Ev.cells_length) h hl hx (y := ⟨a, b0, c0, d0, e0⟩) 0 (by decide) (u := .int .i64 a) rfl
 have s2 := owns_storeN (hf := Ev.cells_length) s1 (by simp [hl]) (x := ⟨a, b0, c0, d0, e0⟩) (k := k) (by simp [hl, hk]) (y := ⟨a, b, c0, d0, e0⟩) 1 (by decide) (u := .int .i64 b) rfl
 have s3 := owns_storeN (hf := Ev.cells_length) s2 (by simp [hl]) (x := ⟨a, b, c0, d0, e0⟩) (k := k) (by simp [hl, hk]) (y := ⟨a, b, c, d0, e0⟩) 2 (by decide) (u := .int .i64 c) rfl
 have s4 := owns_storeN (hf := Ev.cells_length) s3 (by simp [hl]) (x := ⟨a, b, c, d0, e0⟩) (k := k) (by simp [hl, hk]) (y := ⟨a, b, c, d, e0⟩) 3 (by decide) (u := .int .i64 d) rfl
 have s5 := owns_storeN (hf := Ev.cells_length) s4 (by simp [hl]) (x := ⟨a, b, c, d, e0⟩) (k := k) (by simp [hl, hk]) (y := ⟨a, b, c, d, e⟩) 4 (by decide) (u := .int .i64 e) rfl
 simp only [List.set_set] at s5
 exact s5
theorem run_clear_ev (w : World) (ty : TypeId) (g i n c cap : Nat) (xs : List Value) (h : w.ownsRow 0 54 5 (.slice (some ⟨g, 0, none⟩) n cap) n xs) (hi : i < n) : ∃ vs : List Value,
  (Builtin.clear_ #[25] ty #[.slice (some ⟨g, i * 5, none⟩) (n - i) c]).run Try.prog w = .ok (.tuple #[]) (w.setCells g (i * 5) vs) := by
 rcases h.2 with ⟨h0, _⟩ | ⟨g1, cap1, cur, h0, _, hh, h1, _, h3, _⟩
 ·simp at h0
 simp only [Value.slice.injEq, Option.some.injEq, Addr.mk.injEq, and_true, true_and] at h0
 obtain ⟨rfl, rfl⟩ := h0
 refine ⟨(Builtin.zeroCells (Value.agg #[.int .i64 0, .int .i64 0, .int .i64 0, .int .i64 0, .int .i64 0]).cells (n - i)).toList, ?_⟩
 have hlen : ((Builtin.zeroCells (Value.agg #[.int .i64 0, .int .i64 0, .int .i64 0, .int .i64 0, .int .i64 0]).cells (n - i)).toList).length = (n - i) * 5 := by simp [Value.cells, Builtin.zeroCells]
 have hst := run_storeCells_cells (P := Try.prog) g (i * 5) (Builtin.zeroCells (Value.agg #[.int .i64 0, .int .i64 0, .int .i64 0, .int .i64 0, .int .i64 0]).cells (n - i)).toList 0 w
  (fun j hj => by
   rw [hlen] at hj
   rw [cell_of_cells hh, Array.getElem?_eq_getElem (by rw [h3]; omega)]; rfl)
  (fun j hj => free_of_cells hh _)
  (fun v hv => by
   simp only [Builtin.zeroCells, Value.cells, Array.mem_toList_iff, Array.mem_map, Array.mem_range] at hv
   obtain ⟨j, _, rfl⟩ := hv
   have h5 : j % 5 < 5 := Nat.mod_lt _ (by decide)
   rcases (show j % 5 = 0 ∨ j % 5 = 1 ∨ j % 5 = 2 ∨ j % 5 = 3 ∨ j % 5 = 4 by omega) with h | h | h | h | h <;> simp [h] <;> rfl)
 simp only [Nat.add_zero] at hst
 obtain ⟨m, hm⟩ : ∃ m, n - i = m + 1 := ⟨n - i - 1, by omega⟩
 have hv : (zeroValue 54).run Try.prog w = .ok (.agg #[.int .i64 0, .int .i64 0, .int .i64 0, .int .i64 0, .int .i64 0]) w := by go_simp
 rw [hm] at hst ⊢
 simp [Builtin.clear_, run_underlying Try.underlying25, hv, hst]
theorem find_none {q : Ev → Bool} {L : List Ev} (h : L.findIdx? q = none) : L.filter (fun x => !q x) = L := by
 rw [List.filter_eq_self]
 intro x hx
 have := List.findIdx?_eq_none_iff.1 h x hx
 simp [this]
def retI (o : Option Nat) : Int := match o with | some k => (k : Int) | none => -1
theorem find_snoc {q : Ev → Bool} {L : List Ev} {j : Nat} {x : Ev} (hx : L[j]? = some x) (h : ∀ i y, i < j → L[i]? = some y → q y = false) (hq : q x = true) : L.findIdx? q = some j := by
 rw [List.findIdx?_eq_some_iff_getElem]
 obtain ⟨hl, he⟩ := List.getElem?_eq_some_iff.1 hx
 refine ⟨hl, by rw [he]; exact hq, fun i hi => ?_⟩
 have := h i _ hi (List.getElem?_eq_getElem (by omega))
 simp [this]
theorem find_no {q : Ev → Bool} {L : List Ev} (h : ∀ i y, i < L.length → L[i]? = some y → q y = false) : L.findIdx? q = none := by
 rw [List.findIdx?_eq_none_iff]
 intro x hx
 obtain ⟨i, hi, he⟩ := List.mem_iff_getElem.1 hx
 exact h i x hi (by rw [List.getElem?_eq_getElem hi, he])
end Go.Proofs.Ythcmpcekmkioaaa

namespace Go.Proofs.Ythcmpcekmkioaaa
open Go.RowKit
structure DateIs (y m d n : Int) : Prop where
 y0 : 1600 ≤ y
 m0 : 1 ≤ m
 m1 : m ≤ 12
 d0 : 1 ≤ d
 d1 : d ≤ mlen y m
 eq : n = nY y + cumT y m + d - 1
theorem cumT_mono {y : Int} {a : Int} (h0 : 1 ≤ a) : ∀ k : Nat, a + k ≤ 13 → cumT y a ≤ cumT y (a + k)
 | 0, _ => by simp
 | k + 1, h => by
  have h1 := cumT_mono (y := y) h0 k (by omega)
  have h2 := cumT_succ (y := y) (m := a + k) (by omega) (by omega)
  rw [show a + ((k + 1 : Nat) : Int) = a + k + 1 by omega]
  omega
theorem cumT_le {y a b : Int} (h0 : 1 ≤ a) (h1 : a ≤ b) (h2 : b ≤ 13) : cumT y a ≤ cumT y b := by
 have := cumT_mono (y := y) h0 (b - a).toNat (by omega)
 rwa [show a + ((b - a).toNat : Int) = b by omega] at this
theorem DateIs.year {y m d n : Int} (h : DateIs y m d n) : nY y ≤ n ∧ n < nY (y + 1) := by
 have h1 := cumT_succ (y := y) (m := m) h.m0 h.m1
 have h2 := cumT_le (y := y) (a := m + 1) (b := 13) (by have := h.m0; omega) (by have := h.m1; omega) (by omega)
 have h3 := cumT_le (y := y) (a := 1) (b := m) (by omega) h.m0 (by have := h.m1; omega)
 rw [cumT_end] at h2
 rw [cumT_one] at h3
 have h4 := nY_succ h.y0
 have := h.d0; have := h.d1; have := h.eq
 omega
theorem MoAt.walk {y r m : Int} (hr : r < ylen y) (h0 : 1 ≤ m) (h1 : m ≤ 12) (hq : cumT y m ≤ r) : ∀ k : Nat, (k : Int) < m → MoAt y r (k + 1) (r - cumT y ((k : Int) + 1))
 | 0, _ => by
  have : cumT y 1 ≤ cumT y m := cumT_le (by omega) h0 (by omega)
  rw [cumT_one] at this
  have := MoAt.start (y := y) (r := r) (by omega)
  simpa [cumT_one] using this
 | k + 1, hk => by
  have ih := MoAt.walk hr h0 h1 hq k (by omega)
  have hs := cumT_succ (y := y) (m := (k : Int) + 1) (by omega) (by omega)
  have hle := cumT_le (y := y) (a := (k : Int) + 1 + 1) (b := m) (by omega) (by omega) (by omega)
  have hkk : ((k + 1 : Nat) : Int) = (k : Int) + 1 := by omega
  have := ih.next hr (by rw [hkk]; omega)
  rw [hkk] at this ⊢
  rwa [show r - cumT y ((k : Int) + 1) - mlen y ((k : Int) + 1) = r - cumT y ((k : Int) + 1 + 1) by omega] at this
theorem DateIs.found {y m d n : Int} (h : DateIs y m d n) (hn : n ≤ 2932896) : dY n = y ∧ dM n = m ∧ dD n = d := by
 obtain ⟨h1, h2⟩ := h.year
 obtain ⟨hy, _⟩ := yearF_eq h.y0 h1 h2 hn
 have hs := nY_succ h.y0
 have hd0 := h.d0; have hd1 := h.d1; have heq := h.eq; have hm0 := h.m0; have hm1 := h.m1
 have hw := MoAt.walk (y := y) (r := n - nY y) (m := m) (by omega) hm0 hm1 (by omega) (m - 1).toNat (by omega)
 rw [show (((m - 1).toNat : Nat) : Int) + 1 = m by omega, show (m - 1).toNat + 1 = m.toNat by omega] at hw
 have hc : ((m.toNat : Nat) : Int) = m := by omega
 have hdone := hw.done (by rw [hc]; omega)
 rw [hc] at hdone
 refine ⟨hy, ?_, ?_⟩
 ·unfold dM; rw [hy, hdone]
 ·unfold dD; rw [hy, hdone]; show n - nY y - cumT y m + 1 = d; omega
theorem date_next {y m d n : Int} (h : DateIs y m d n) : (d < mlen y m ∧ DateIs y m (d + 1) (n + 1)) ∨ (d = mlen y m ∧ m < 12 ∧ DateIs y (m + 1) 1 (n + 1)) ∨ (d = mlen y m ∧ m = 12 ∧ DateIs (y + 1) 1 1 (n + 1)) := by
 obtain ⟨y0, m0, m1, d0, d1, eq⟩ := h
 have hc := cumT_succ (y := y) (m := m) m0 m1
 by_cases hd : d < mlen y m
 ·exact .inl ⟨hd, y0, m0, m1, by omega, by omega, by omega⟩
 ·by_cases hm : m < 12
  ·have hc2 := cumT_succ (y := y) (m := m + 1) (by omega) (by omega)
   exact .inr (.inl ⟨by omega, hm, y0, by omega, by omega, by omega, by omega, by omega⟩)
  ·obtain rfl : m = 12 := by omega
   have hc2 := cumT_succ (y := y + 1) (m := 1) (by omega) (by omega)
   have he := cumT_end y
   have hy := nY_succ y0
   rw [show (12 : Int) + 1 = 13 by rfl, he] at hc
   exact .inr (.inr ⟨by omega, rfl, by omega, by omega, by omega, by omega, by omega, by rw [cumT_one]; omega⟩)
theorem date_ex : ∀ k : Nat, ∃ y m d, DateIs y m d (-135140 + k)
 | 0 => ⟨1600, 1, 1, by decide, by decide, by decide, by decide, by decide, by decide⟩
 | k + 1 => by
  obtain ⟨y, m, d, h⟩ := date_ex k
  rw [show (-135140 : Int) + ((k + 1 : Nat) : Int) = -135140 + k + 1 by omega]
  rcases date_next h with ⟨_, h⟩ | ⟨_, _, h⟩ | ⟨_, _, h⟩
  ·exact ⟨_, _, _, h⟩
  ·exact ⟨_, _, _, h⟩
  ·exact ⟨_, _, _, h⟩
theorem date_is {n : Int} (h0 : -135140 ≤ n) (h1 : n ≤ 2932896) : DateIs (dY n) (dM n) (dD n) n := by
 obtain ⟨y, m, d, h⟩ := date_ex (n + 135140).toNat
 rw [show (-135140 : Int) + ((n + 135140).toNat : Int) = n by omega] at h
 obtain ⟨e1, e2, e3⟩ := h.found h1
 rw [e1, e2, e3]; exact h
theorem DateIs.same {y m d n : Int} (h : DateIs y m d n) (k : Int) (h0 : 1 ≤ d + k) (h1 : d + k ≤ mlen y m) : DateIs y m (d + k) (n + k) := ⟨h.y0, h.m0, h.m1, h0, h1, by have := h.eq; omega⟩
theorem DateIs.over {y m d n : Int} (h : DateIs y m d n) (k : Int) (h0 : 1 ≤ k) (h1 : k ≤ 28) : ∃ y' m', DateIs y' m' k (n - d + mlen y m + k) := by
 have hl := h.same (mlen y m - d) (by have := h.d0; have := h.d1; omega) (by omega)
 rw [show d + (mlen y m - d) = mlen y m by omega] at hl
 rcases date_next hl with ⟨hh, _⟩ | ⟨_, hm, hn⟩ | ⟨_, hm, hn⟩
 ·omega
 ·have := cumT_succ (y := y) (m := m + 1) (by have := h.m0; omega) (by omega)
  have := hn.same (k - 1) (by omega) (by omega)
  exact ⟨_, _, by rwa [show 1 + (k - 1) = k by omega, show n + (mlen y m - d) + 1 + (k - 1) = n - d + mlen y m + k by omega] at this⟩
 ·have := cumT_succ (y := y + 1) (m := 1) (by omega) (by omega)
  have := hn.same (k - 1) (by omega) (by omega)
  exact ⟨_, _, by rwa [show 1 + (k - 1) = k by omega, show n + (mlen y m - d) + 1 + (k - 1) = n - d + mlen y m + k by omega] at this⟩
def lastF (fr cd : Int) : Int := if fr - dD fr + cd - 1 < fr then fr - dD fr + cd - 1 + mlen (dY fr) (dM fr) else fr - dD fr + cd - 1
def lastE (fr cd : Int) : Int := if cd < 1 ∨ 28 < cd then 1 else if ¬ (-135140 ≤ fr ∧ fr ≤ 2932896) then 10 else if 2932896 < lastF fr cd then 10 else 0
theorem lastF_ge {fr cd : Int} (h0 : -135140 ≤ fr) (h1 : fr ≤ 2932896) (c0 : 1 ≤ cd) (c1 : cd ≤ 28) : fr ≤ lastF fr cd ∧ lastF fr cd ≤ fr + 31 := by
 have h := date_is h0 h1
 have hm := (cumT_succ (y := dY fr) (m := dM fr) h.m0 h.m1).2
 have := h.d0; have := h.d1
 unfold lastF
 split <;> omega
theorem lastF_no {fr cd n : Int} (h0 : -135140 ≤ fr) (h1 : fr ≤ 2932896) (c0 : 1 ≤ cd) (c1 : cd ≤ 28) (hn0 : fr ≤ n) (hn1 : n < lastF fr cd) (hn2 : n + 1 ≤ 2932896) : dD (n + 1) ≠ cd := by
 have h := date_is h0 h1
 have hm := (cumT_succ (y := dY fr) (m := dM fr) h.m0 h.m1).2
 have hd0 := h.d0; have hd1 := h.d1
 unfold lastF at hn1
 by_cases hs : dD fr + (n + 1 - fr) ≤ mlen (dY fr) (dM fr)
 ·have h2 := h.same (n + 1 - fr) (by omega) hs
  rw [show fr + (n + 1 - fr) = n + 1 by omega] at h2
  rw [(h2.found hn2).2.2]
  split at hn1 <;> omega
 ·split at hn1
  ·obtain ⟨y', m', h2⟩ := h.over (n + 1 - fr - (mlen (dY fr) (dM fr) - dD fr)) (by omega) (by omega)
   rw [show fr - dD fr + mlen (dY fr) (dM fr) + (n + 1 - fr - (mlen (dY fr) (dM fr) - dD fr)) = n + 1 by omega] at h2
   rw [(h2.found hn2).2.2]
   omega
  ·omega
theorem lastF_yes {fr cd : Int} (h0 : -135140 ≤ fr) (h1 : fr ≤ 2932896) (c0 : 1 ≤ cd) (c1 : cd ≤ 28) (hn2 : lastF fr cd + 1 ≤ 2932896) : dD (lastF fr cd + 1) = cd := by
 have h := date_is h0 h1
 have hm := (cumT_succ (y := dY fr) (m := dM fr) h.m0 h.m1).2
 have hd0 := h.d0; have hd1 := h.d1
 unfold lastF at hn2 ⊢
 split
 ·rename_i hlt
  rw [if_pos hlt] at hn2
  obtain ⟨y', m', h2⟩ := h.over cd c0 c1
  rw [show fr - dD fr + cd - 1 + mlen (dY fr) (dM fr) + 1 = fr - dD fr + mlen (dY fr) (dM fr) + cd by omega]
  exact (h2.found (by omega)).2.2
 ·rename_i hlt
  rw [if_neg hlt] at hn2
  have h2 := h.same (cd - dD fr) (by omega) (by omega)
  rw [show fr - dD fr + cd - 1 + 1 = fr + (cd - dD fr) by omega]
  rw [(h2.found (by omega)).2.2]; omega
theorem lastF_end {fr cd : Int} (h0 : -135140 ≤ fr) (h1 : fr ≤ 2932896) (c0 : 1 ≤ cd) (c1 : cd ≤ 28) (hl : 2932896 ≤ lastF fr cd) : lastF fr cd = 2932896 ↔ cd = 1 := by
 have h := date_is h0 h1
 have hm := (cumT_succ (y := dY fr) (m := dM fr) h.m0 h.m1).2
 have hd0 := h.d0; have hd1 := h.d1
 have hy : nY (9999 + 1) = 2932897 := by decide
 have hyear := h.year
 have hy9 : dY fr ≤ 9999 := nY_lt h.y0 (by omega) (by omega)
 unfold lastF at hl ⊢
 split
 ·rename_i hlt
  rw [if_pos hlt] at hl
  have hend := h.same (mlen (dY fr) (dM fr) - dD fr) (by omega) (by omega)
  rw [show dD fr + (mlen (dY fr) (dM fr) - dD fr) = mlen (dY fr) (dM fr) by omega] at hend
  have hle : fr + (mlen (dY fr) (dM fr) - dD fr) ≤ 2932896 := by
   have := hend.year.2
   have := nY_mono (x := dY fr + 1) (y := 9999 + 1) (by have := h.y0; omega) (by omega)
   omega
  rcases date_next hend with ⟨hh, _⟩ | ⟨_, hm12, hn⟩ | ⟨_, hm12, hn⟩
  ·omega
  ·have := cumT_succ (y := dY fr) (m := dM fr + 1) (by have := h.m0; omega) (by omega)
   have h3 := hn.same 27 (by omega) (by omega)
   have := h3.year.2
   have := nY_mono (x := dY fr + 1) (y := 9999 + 1) (by have := h.y0; omega) (by omega)
   omega
  ·by_cases h99 : dY fr = 9999
   ·have he := hend.eq
    rw [h99, hm12] at he
    have c1 := cumT_succ (y := 9999) (m := 12) (by omega) (by omega)
    have c2 := cumT_end 9999
    have c3 := nY_succ (y := 9999) (by omega)
    rw [show (12 : Int) + 1 = 13 by rfl, c2] at c1
    rw [h99, hm12] at *
    omega
   ·have h3 := hn.same 27 (by omega) (by have := cumT_succ (y := dY fr + 1) (m := 1) (by omega) (by omega); omega)
    have := h3.year.2
    have := nY_mono (x := dY fr + 1 + 1) (y := 9999 + 1) (by have := h.y0; omega) (by omega)
    omega
 ·rename_i hlt
  rw [if_neg hlt] at hl
  have hend := h.same (mlen (dY fr) (dM fr) - dD fr) (by omega) (by omega)
  have := hend.year.2
  have := nY_mono (x := dY fr + 1) (y := 9999 + 1) (by have := h.y0; omega) (by omega)
  omega
end Go.Proofs.Ythcmpcekmkioaaa
namespace Go.Proofs.Ythcmpcekmkioaaa
open Go.RowKit
def lastV (fr cd : Int) : Int := if lastE fr cd = 0 then lastF fr cd else 0
set_option maxRecDepth 100000 in
set_option maxHeartbeats 1600000 in
theorem cycLast_any (fr cd : Int) (w : World) (hf : -1000000000000 ≤ fr ∧ fr ≤ 1000000000000) : Calls Try.prog 70 #[.int .i64 fr, .int .i64 cd] w fun e w' => e = .returned (.tuple #[.int .i64 (lastV fr cd), .int .i64 (lastE fr cd)]) ∧ Keeps (fun _ => False) w w' := by
 obtain ⟨hf0, hf1⟩ := hf
 by_cases hc : cd < 1 ∨ 28 < cd
 ·have he : lastE fr cd = 1 := by unfold lastE; rw [if_pos hc]
  have hv : lastV fr cd = 0 := by unfold lastV; rw [if_neg (by rw [he]; decide)]
  rw [he, hv]
  obtain ⟨He, Hv⟩ := hid2 he hv; clear hv he
  go_enter Try.func70, Try.ntmps70
  rcases hc with hc | hc
  ·go_wp2
   exact bodyPost_ret (v := .tuple #[.int .i64 0, .int .i64 1]) (by simp [results, Try.results70, go_sem]) rfl ⟨rfl, by (repeat (first | exact Keeps.refl _ _ | exact Keeps.alloc _ _ | exact Keeps.drew _ | exact Keeps.drewN _ _ | refine Keeps.trans_drew ?_ | refine Keeps.trans_drewN ?_ | refine Keeps.trans_alloc ?_))⟩
  ·have hc2 : ¬ cd < 1 := by omega
   go_wp2
   exact bodyPost_ret (v := .tuple #[.int .i64 0, .int .i64 1]) (by simp [results, Try.results70, go_sem]) rfl ⟨rfl, by (repeat (first | exact Keeps.refl _ _ | exact Keeps.alloc _ _ | exact Keeps.drew _ | exact Keeps.drewN _ _ | refine Keeps.trans_drew ?_ | refine Keeps.trans_drewN ?_ | refine Keeps.trans_alloc ?_))⟩
 ·have c1 : ¬ cd < 1 := by omega
  have c2 : ¬ 28 < cd := by omega
  have hdt := dayDate_any fr w (by omega)
  by_cases hin : -135140 ≤ fr ∧ fr ≤ 2932896
  ·have hd : dayIn fr = true := by simp [dayIn, hin]
   rw [if_pos hd, if_pos hd] at hdt
   have h := date_is hin.1 hin.2
   have hm := (cumT_succ (y := dY fr) (m := dM fr) h.m0 h.m1).2
   have y0 := h.y0; have m0 := h.m0; have m1 := h.m1; have d0 := h.d0; have d1 := h.d1
   have hlen := fun W => dayLength_any (dY fr) (dM fr) (by omega) m0 m1 W
   have hlf : lastF fr cd = if fr - dD fr + cd - 1 < fr then fr - dD fr + cd - 1 + mlen (dY fr) (dM fr) else fr - dD fr + cd - 1 := rfl
   have hle : lastE fr cd = if 2932896 < lastF fr cd then 10 else 0 := by unfold lastE; rw [if_neg hc, if_neg (by omega)]
   have hlv : lastV fr cd = if lastE fr cd = 0 then lastF fr cd else 0 := rfl
   obtain ⟨F, hF⟩ : ∃ F, lastF fr cd = F := ⟨_, rfl⟩
   obtain ⟨E, hE⟩ : ∃ E, lastE fr cd = E := ⟨_, rfl⟩
   obtain ⟨V, hV⟩ : ∃ V, lastV fr cd = V := ⟨_, rfl⟩
   obtain ⟨Y, hY⟩ : ∃ Y, dY fr = Y := ⟨_, rfl⟩
   obtain ⟨M, hM⟩ : ∃ M, dM fr = M := ⟨_, rfl⟩
   obtain ⟨D, hD⟩ : ∃ D, dD fr = D := ⟨_, rfl⟩
   obtain ⟨l, hl⟩ : ∃ l, mlen Y M = l := ⟨_, rfl⟩
   rw [hF] at hlf hle hlv
   rw [hE] at hle hlv
   rw [hV] at hlv
   rw [hE, hV]
   rw [hY, hM] at hlf hm hlen hdt d1
   rw [hD] at hdt hlf d0 d1
   rw [hl] at hlf hm hlen d1
   obtain ⟨hin0, hin1⟩ := hin
   clear h y0 m0 m1 hc
   by_cases ha : fr - D + cd - 1 < fr
   ·rw [if_pos ha] at hlf
    subst hlf
    by_cases hb : 2932896 < fr - D + cd - 1 + l
    ·rw [if_pos hb] at hle
     subst hle
     rw [if_neg (by decide)] at hlv
     subst hlv
     obtain ⟨Hd, Hdt, Hlen, HF, HE, HV, HY, HM, HD⟩ := hid9 hd hdt hlen hF hE hV hY hM hD; clear hD hM hY hV hE hF hlen hdt hd; have Hl := Lib.hid hl; clear hl
     go_enter Try.func70, Try.ntmps70
     go_wp2_with fail
     refine Hdt.out.mono ?_
     rintro e w1 ⟨rfl, hk1⟩
     have Hk1 := Lib.hid hk1; clear hk1
     go_wp2_with fail
     refine (Hlen.out _).mono ?_
     rintro e w2 ⟨rfl, rfl⟩
     go_wp2_with fail
     exact bodyPost_ret (v := .tuple #[.int .i64 0, .int .i64 10]) (by simp [results, Try.results70, go_sem]) rfl ⟨rfl, Hk1.out.nt (by (repeat (first | exact Keeps.refl _ _ | exact Keeps.alloc _ _ | exact Keeps.drew _ | exact Keeps.drewN _ _ | refine Keeps.trans_drew ?_ | refine Keeps.trans_drewN ?_ | refine Keeps.trans_alloc ?_)))⟩
    ·rw [if_neg hb] at hle
     subst hle
     rw [if_pos rfl] at hlv
     subst hlv
     obtain ⟨Hd, Hdt, Hlen, HF, HE, HV, HY, HM, HD⟩ := hid9 hd hdt hlen hF hE hV hY hM hD; clear hD hM hY hV hE hF hlen hdt hd; have Hl := Lib.hid hl; clear hl
     go_enter Try.func70, Try.ntmps70
     go_wp2_with fail
     refine Hdt.out.mono ?_
     rintro e w1 ⟨rfl, hk1⟩
     have Hk1 := Lib.hid hk1; clear hk1
     go_wp2_with fail
     refine (Hlen.out _).mono ?_
     rintro e w2 ⟨rfl, rfl⟩
     go_wp2_with fail
     exact bodyPost_ret (v := .tuple #[.int .i64 (fr - D + cd - 1 + l), .int .i64 0]) (by simp [results, Try.results70, go_sem]) rfl ⟨rfl, Hk1.out.nt (by (repeat (first | exact Keeps.refl _ _ | exact Keeps.alloc _ _ | exact Keeps.drew _ | exact Keeps.drewN _ _ | refine Keeps.trans_drew ?_ | refine Keeps.trans_drewN ?_ | refine Keeps.trans_alloc ?_)))⟩
   ·rw [if_neg ha] at hlf
    subst hlf
    by_cases hb : 2932896 < fr - D + cd - 1
    ·rw [if_pos hb] at hle
     subst hle
     rw [if_neg (by decide)] at hlv
     subst hlv
     obtain ⟨Hd, Hdt, Hlen, HF, HE, HV, HY, HM, HD⟩ := hid9 hd hdt hlen hF hE hV hY hM hD; clear hD hM hY hV hE hF hlen hdt hd; have Hl := Lib.hid hl; clear hl
     go_enter Try.func70, Try.ntmps70
     go_wp2_with fail
     refine Hdt.out.mono ?_
     rintro e w1 ⟨rfl, hk1⟩
     have Hk1 := Lib.hid hk1; clear hk1
     go_wp2_with fail
     exact bodyPost_ret (v := .tuple #[.int .i64 0, .int .i64 10]) (by simp [results, Try.results70, go_sem]) rfl ⟨rfl, Hk1.out.nt (by (repeat (first | exact Keeps.refl _ _ | exact Keeps.alloc _ _ | exact Keeps.drew _ | exact Keeps.drewN _ _ | refine Keeps.trans_drew ?_ | refine Keeps.trans_drewN ?_ | refine Keeps.trans_alloc ?_)))⟩
    ·rw [if_neg hb] at hle
     subst hle
     rw [if_pos rfl] at hlv
     subst hlv
     obtain ⟨Hd, Hdt, Hlen, HF, HE, HV, HY, HM, HD⟩ := hid9 hd hdt hlen hF hE hV hY hM hD; clear hD hM hY hV hE hF hlen hdt hd; have Hl := Lib.hid hl; clear hl
     go_enter Try.func70, Try.ntmps70
     go_wp2_with fail
     refine Hdt.out.mono ?_
     rintro e w1 ⟨rfl, hk1⟩
     have Hk1 := Lib.hid hk1; clear hk1
     go_wp2_with fail
     exact bodyPost_ret (v := .tuple #[.int .i64 (fr - D + cd - 1), .int .i64 0]) (by simp [results, Try.results70, go_sem]) rfl ⟨rfl, Hk1.out.nt (by (repeat (first | exact Keeps.refl _ _ | exact Keeps.alloc _ _ | exact Keeps.drew _ | exact Keeps.drewN _ _ | refine Keeps.trans_drew ?_ | refine Keeps.trans_drewN ?_ | refine Keeps.trans_alloc ?_)))⟩
  ·have hd : dayIn fr = false := by simp [dayIn]; omega
   have hdd : ¬ dayIn fr = true := by rw [hd]; decide
   rw [if_neg hdd, if_neg hdd] at hdt
   have he : lastE fr cd = 10 := by unfold lastE; rw [if_neg hc, if_pos hin]
   have hv : lastV fr cd = 0 := by unfold lastV; rw [if_neg (by rw [he]; decide)]
   rw [he, hv]
   clear hin hc
   obtain ⟨He, Hv, Hd, Hdd, Hdt⟩ := hid5 he hv hd hdd hdt; clear hdt hdd hd hv he
   go_enter Try.func70, Try.ntmps70
   go_wp2_with fail
   refine Hdt.out.mono ?_
   rintro e w1 ⟨rfl, hk1⟩
   have Hk1 := Lib.hid hk1; clear hk1
   go_wp2
   exact bodyPost_ret (v := .tuple #[.int .i64 0, .int .i64 10]) (by simp [results, Try.results70, go_sem]) rfl ⟨rfl, Hk1.out.nt (by (repeat (first | exact Keeps.refl _ _ | exact Keeps.alloc _ _ | exact Keeps.drew _ | exact Keeps.drewN _ _ | refine Keeps.trans_drew ?_ | refine Keeps.trans_drewN ?_ | refine Keeps.trans_alloc ?_)))⟩
end Go.Proofs.Ythcmpcekmkioaaa
namespace Go.Proofs.Ythcmpcekmkioaaa
open Go.RowKit
def spc (p : Int × Int) : List Value := [.int .i64 p.1, .int .i64 p.2]
theorem spc_length (p : Int × Int) : (spc p).length = 2 := rfl
theorem spc_one (L : List (Int × Int)) : ∀ u ∈ L.flatMap spc, u.oneCell' = true := by
 intro u hu
 obtain ⟨d, _, hd⟩ := List.mem_flatMap.1 hu
 simp only [spc, List.mem_cons, List.not_mem_nil, or_false] at hd
 rcases hd with rfl | rfl <;> rfl
theorem info_tSpan : (Try.prog.info? 46).map (fun i => (i.zero, i.size, i.bytes)) = some (some (.agg #[.int .i64 0, .int .i64 0]), 2, 16) := by kernel_rfl
def findW (cd day : Int) : Nat → Int → List (Int × Int) × Bool
 | 0, _ => ([], false)
 | f + 1, fr => if lastE fr cd = 0 then (if lastF fr cd < day ∧ f ≠ 0 then ((fr, lastF fr cd) :: (findW cd day f (lastF fr cd + 1)).1, (findW cd day f (lastF fr cd + 1)).2) else ([(fr, lastF fr cd)], decide (fr ≤ day) && decide (day ≤ lastF fr cd))) else ([], false)
structure FindAt (S : Nat → Prop) (w0 : World) (bl bd bi : Nat) (day : Int) (v : Value) (L : List (Int × Int)) (b : Bool) (W : World) : Prop where
 l : W.heap[bl]? = some (.cells #[v] 42 (0, 0))
 d : W.heap[bd]? = some (.cells #[.int .i64 day] 3 (0, 0))
 i : W.heap[bi]? = some (.cells #[.bool b] 4 (0, 0))
 row : W.ownsRow 0 46 2 v L.length (L.flatMap spc)
 fr : ∀ g, v.ownBlock = some g → w0.heap.size ≤ g
 kp : Keeps S w0 W
theorem FindAt.keep {S : Nat → Prop} {w0 W W' : World} {bl bd bi : Nat} {day : Int} {v : Value} {L : List (Int × Int)} {b : Bool} (h : FindAt S w0 bl bd bi day v L b W) (hk : Keeps (fun _ => False) W W') : FindAt S w0 bl bd bi day v L b W' :=
 ⟨box_old h.l hk (by simp), box_old h.d hk (by simp), box_old h.i hk (by simp), h.row.of_keeps hk, h.fr, h.kp.trans (hk.mono (by simp))⟩
set_option maxRecDepth 100000 in
set_option maxHeartbeats 1600000 in
theorem cycFind1_any (S : Nat → Prop) (w0 : World) (bl bd bi : Nat) (day : Int) (v : Value) (L : List (Int × Int)) (b : Bool) (n fr te : Int) (W : World) (h : FindAt S w0 bl bd bi day v L b W) (hSl : S bl) (hSi : S bi) (hL : L.length ≤ 1000000) :
  Calls Try.prog 73 #[.int .i64 n, .agg #[.int .i64 fr, .int .i64 te], (.pointer (some ⟨bl, 0, none⟩)), (.pointer (some ⟨bd, 0, none⟩)), (.pointer (some ⟨bi, 0, none⟩))] W fun e w' => e = .returned (.bool (decide (te < day) && decide (n < 300))) ∧ Keeps (fun i => i = bl ∨ i = bi ∨ v.ownBlock = some i) W w' ∧ ∃ v', FindAt S w0 bl bd bi day v' (L ++ [(fr, te)]) (decide (fr ≤ day) && decide (day ≤ te)) w' := by
 obtain ⟨i0, hi, hi0, hi1, hi2⟩ := info_parts info_tSpan
 obtain ⟨hl, hd, hib, hrow, hfr, hkp⟩ := h
 have hlv := ownsRow_ne hrow hl (by decide)
 have hdv := ownsRow_ne hrow hd (by decide)
 have hiv := ownsRow_ne hrow hib (by decide)
 have nld : bl ≠ bd := fun e => by subst e; rw [hl] at hd; simp at hd
 have nli : bl ≠ bi := fun e => by subst e; rw [hl] at hib; simp at hib
 have ndi : bd ≠ bi := fun e => by subst e; rw [hd] at hib; simp at hib
 obtain ⟨ad, cap, hv, _, _⟩ := ownsRow_shape hrow
 obtain ⟨q, hq⟩ : ∃ q, L.length = q := ⟨_, rfl⟩
 rw [hq] at hrow hv hL
 subst hv
 have cl := cell_of_cells hl 0
 have bll := lt_of_block hl
 have fl := free_of_cells hl 0
 obtain ⟨r, hr⟩ : ∃ r, (decide (fr ≤ day) && decide (day ≤ te)) = r := ⟨_, rfl⟩
 obtain ⟨r2, hr2⟩ : ∃ r, (decide (te < day) && decide (n < 300)) = r := ⟨_, rfl⟩
 rw [hr, hr2]
 have hW1 : ∀ v' w', Keeps (fun i => (Value.slice ad q cap).ownBlock = some i) W w' → w'.ownsRow 0 46 2 v' (q + 1) ((L ++ [(fr, te)]).flatMap spc) → (v'.ownBlock = (Value.slice ad q cap).ownBlock ∨ ∃ g, v'.ownBlock = some g ∧ W.heap.size ≤ g) →
   Keeps (fun i => i = bl ∨ i = bi ∨ (Value.slice ad q cap).ownBlock = some i) W ((w'.setCell ⟨bl, 0, none⟩ v').setCell ⟨bi, 0, none⟩ (.bool r)) ∧ FindAt S w0 bl bd bi day v' (L ++ [(fr, te)]) r ((w'.setCell ⟨bl, 0, none⟩ v').setCell ⟨bi, 0, none⟩ (.bool r)) := by
  intro v' w' hk ho hf
  have h1 := box_old hl hk hlv
  have h2 := box_old hd hk hdv
  have h3 := box_old hib hk hiv
  have hs := hkp.size
  have hks := hk.size
  have nv : ∀ g, v'.ownBlock = some g → g ≠ bl ∧ g ≠ bi := by
   intro g hg
   rcases hf with e | ⟨g', e, h'⟩
   ·exact ⟨fun e2 => by subst e2; exact hlv (e ▸ hg), fun e2 => by subst e2; exact hiv (e ▸ hg)⟩
   ·rw [e] at hg; simp only [Option.some.injEq] at hg; have := lt_of_block hib; exact ⟨by omega, by omega⟩
  have k1 : Keeps (fun i => i = bl) w' (w'.setCell ⟨bl, 0, none⟩ v') := Keeps.setCell _ _ _ rfl
  have k2 : Keeps (fun i => i = bi) (w'.setCell ⟨bl, 0, none⟩ v') ((w'.setCell ⟨bl, 0, none⟩ v').setCell ⟨bi, 0, none⟩ (.bool r)) := Keeps.setCell _ _ _ rfl
  have kk : Keeps (fun i => i = bl ∨ i = bi ∨ (Value.slice ad q cap).ownBlock = some i) W ((w'.setCell ⟨bl, 0, none⟩ v').setCell ⟨bi, 0, none⟩ (.bool r)) :=
   ((hk.mono fun i _ e => .inr (.inr e)).trans (k1.mono fun i _ e => .inl (.inl e))).trans (k2.mono fun i _ e => .inl (.inr (.inl e)))
  refine ⟨kk, ?_, ?_, ?_, ?_, ?_, ?_⟩
  ·exact box_old ((heap_setCell_same _ _ 0 _ _ _ h1).trans rfl) k2 (fun e => nli e)
  ·exact box_old (box_old h2 k1 (fun e => nld e.symm)) k2 (fun e => ndi e)
  ·exact (heap_setCell_same _ _ 0 _ _ _ (box_old h3 k1 (fun e => nli e.symm))).trans rfl
  ·rw [List.length_append, hq]
   exact k2.row (k1.row ho (fun g hg e => (nv g hg).1 e)) (fun g hg e => (nv g hg).2 e)
  ·intro g hg
   rcases hf with e | ⟨g', e, h'⟩
   ·exact hfr g (by rw [← e]; exact hg)
   ·rw [e] at hg; simp only [Option.some.injEq] at hg; omega
  ·exact hkp.trans (kk.mono fun i _ e => by
    rcases e with rfl | rfl | e
    ·exact .inl hSl
    ·exact .inl hSi
    ·exact .inr (hfr i e))
 obtain ⟨Hl, Hd, Hib, Hrow, Hfr, Hkp, Hq, Hi, Hi0⟩ := hid9 hl hd hib hrow hfr hkp hq hi hi0; clear hi0 hi hq hkp hfr hrow hib hd hl; obtain ⟨Hi1, Hi2, HW1, Hlv, Hdv, Hiv, Hr, Hr2⟩ := hid8 hi1 hi2 hW1 hlv hdv hiv hr hr2; clear hr2 hr hiv hdv hlv hW1 hi2 hi1
 go_enter Try.func73, Try.ntmps73
 go_wp2_with (at_builtin; refine wpList_append_row rfl (.tmp 8) (.tmp 10) 42 rfl 0 46 i0 _ 2 16 Try.underlying42 Hi.out Hi0.out Hi1.out Hi2.out rfl (by decide) _ q _ rfl ((Hrow.out.alloc _).alloc _) _ 1 _ rfl (Reads.litAt _ _ _ 2 1 _ (by first | rfl | simp) rfl) (by simp [Value.oneCell']) (by unfold maxLen; omega) (by omega) (Nat.zero_le _) ?_; intro v4 w4 hown4 hk4 hf4; refine haltD ?_)
 refine Lib.hid ?_
 have hnB : ¬ (Value.slice ad q cap).ownBlock = some W.heap.size := fun e => by have := own_lt Hrow.out e; omega
 have hkW : Keeps (fun i => (Value.slice ad q cap).ownBlock = some i) W w4 := ((Keeps.alloc W (.cells #[.int .i64 fr, .int .i64 te] 46)).trans (Keeps.alloc _ _)).trans (hk4.mono fun i _ e => .inl e)
 have hb4 := box_old (box_alloc (heap_alloc_new W (.cells #[.int .i64 fr, .int .i64 te] 46)) _) hk4 hnB
 have s0 := cell_of_cells hb4 0
 have s1 := cell_of_cells hb4 1
 have sl := lt_of_block hb4
 have l4 := box_old Hl.out hkW Hlv.out
 have d4 := box_old Hd.out hkW Hdv.out
 have i4 := box_old Hib.out hkW Hiv.out
 have lc := cell_of_cells l4 0
 have lf := free_of_cells l4 0
 have ll := lt_of_block l4
 have dc := cell_of_cells d4 0
 have dl := lt_of_block d4
 have ic := cell_of_cells i4 0
 have if0 := free_of_cells i4 0
 have il := lt_of_block i4
 have hpost := HW1.out v4 w4 hkW (by rw [List.flatMap_append]; exact hown4) (hf4.imp id fun ⟨g, h1, h2⟩ => ⟨g, h1, by simp at h2; omega⟩)
 have hbS : W.heap.size ≠ bl := by omega
 have hbS2 : W.heap.size ≠ bi := by have := lt_of_block Hib.out; omega
 obtain ⟨ad4, c4, rfl, _, _⟩ := ownsRow_shape hown4
 obtain ⟨Hpost, HkW, Hb4, L4, D4, I4⟩ := hid6 hpost hkW hb4 l4 d4 i4; clear i4 d4 l4 hb4 hkW hpost
 clear hown4 hk4 hf4 hnB
 by_cases b1 : fr ≤ day
 ·by_cases b2 : day ≤ te
  ·have b3 : ¬ te < day := by omega
   have hr' := Hr.out
   have hr2' := Hr2.out
   simp only [*, decide_true, decide_false, Bool.and_true, Bool.false_and] at hr' hr2'
   subst hr' hr2'
   go_wp2
   go_ret
   exact ⟨rfl, Hpost.out.1, _, Hpost.out.2⟩
  ·have b3 : te < day := by omega
   by_cases b4 : n < 300
   ·skip
    have hr' := Hr.out
    have hr2' := Hr2.out
    simp only [*, decide_true, decide_false, Bool.and_true, Bool.and_false] at hr' hr2'
    subst hr' hr2'
    go_wp2
    go_ret
    exact ⟨rfl, Hpost.out.1, _, Hpost.out.2⟩
   ·skip
    have hr' := Hr.out
    have hr2' := Hr2.out
    simp only [*, decide_true, decide_false, Bool.and_false] at hr' hr2'
    subst hr' hr2'
    go_wp2
    go_ret
    exact ⟨rfl, Hpost.out.1, _, Hpost.out.2⟩
 ·by_cases b3 : te < day
  ·by_cases b4 : n < 300
   ·skip
    have hr' := Hr.out
    have hr2' := Hr2.out
    simp only [*, decide_true, decide_false, Bool.and_true, Bool.false_and] at hr' hr2'
    subst hr' hr2'
    go_wp2
    go_ret
    exact ⟨rfl, Hpost.out.1, _, Hpost.out.2⟩
   ·skip
    have hr' := Hr.out
    have hr2' := Hr2.out
    simp only [*, decide_true, decide_false, Bool.and_false, Bool.false_and] at hr' hr2'
    subst hr' hr2'
    go_wp2
    go_ret
    exact ⟨rfl, Hpost.out.1, _, Hpost.out.2⟩
  ·skip
   have hr' := Hr.out
   have hr2' := Hr2.out
   simp only [*, decide_false, Bool.false_and] at hr' hr2'
   subst hr' hr2'
   go_wp2
   go_ret
   exact ⟨rfl, Hpost.out.1, _, Hpost.out.2⟩
end Go.Proofs.Ythcmpcekmkioaaa
namespace Go.Proofs.Ythcmpcekmkioaaa
open Go.RowKit
theorem FindAt.set {S : Nat → Prop} {w0 W : World} {bl bd bi : Nat} {day : Int} {v : Value} {L : List (Int × Int)} {b : Bool} (h : FindAt S w0 bl bd bi day v L b W) {B : Nat} (hS : S B) (h1 : bl ≠ B) (h2 : bd ≠ B) (h3 : bi ≠ B) (h4 : B < w0.heap.size) (j : Nat) (u : Value) : FindAt S w0 bl bd bi day v L b (W.setCell ⟨B, j, none⟩ u) := by
 have k : Keeps (fun i => i = B) W (W.setCell ⟨B, j, none⟩ u) := Keeps.setCell _ _ _ rfl
 exact ⟨box_old h.l k h1, box_old h.d k h2, box_old h.i k h3, k.row h.row (fun g hg e => by have := h.fr g hg; omega), h.fr, h.kp.trans (k.mono fun i _ e => .inl (e ▸ hS))⟩
def spFr (cd : Int) (clo : Value) (n : Nat) (B : Nat) (u : Nat → Value) : Act := { tmps := #[u 0, .int .i64 cd, clo, u 3, u 4, u 5, u 6, .int .i64 ((n : Nat) : Int), (.pointer (some ⟨B, 0, none⟩)), u 9, u 10, u 11, u 12, u 13, u 14, u 15, u 16, u 17, u 18, u 19, u 20, u 21, u 22, u 23, u 24, u 25, u 26, u 27, u 28, u 29, u 30, u 31, u 32, u 33], defers := [] }
def slotNatS (i : Nat) (a' : Act) : Nat := match a'.tmps.getD i undef with | .int _ n => n.toNat | _ => 0
def spW (w : World) (st : Int) : World := w.alloc (.cells #[.int .i64 st, .int .i64 0] 46)
structure SpAt (w : World) (bl bd bi : Nat) (st cd day : Int) (k : Nat) (fr te : Int) (L : List (Int × Int)) (v : Value) (W : World) : Prop where
 k3 : k < 300
 box : W.heap[w.heap.size]? = some (.cells #[.int .i64 fr, .int .i64 te] 46 (0, 0))
 fa : FindAt (fun i => i = bl ∨ i = bi ∨ i = w.heap.size) (spW w st) bl bd bi day v L false W
 f0 : -1000000000000 ≤ fr
 f1 : fr ≤ 1000000000000
 len : L.length = k
 eq : findW cd day 300 st = (L ++ (findW cd day (300 - k) fr).1, (findW cd day (300 - k) fr).2)
def spJ (w : World) (bl bd bi : Nat) (st cd day : Int) (clo : Value) (a' : Act) (W : World) : Prop := ∃ (k : Nat) (fr te : Int) (L : List (Int × Int)) (v : Value) (u : Nat → Value), a' = spFr cd clo (k + 1) w.heap.size u ∧ SpAt w bl bd bi st cd day k fr te L v W
theorem spJ.mk {w : World} {bl bd bi : Nat} {st cd day : Int} {clo : Value} {a' : Act} {W : World} (k : Nat) (fr te : Int) (L : List (Int × Int)) (v : Value) (h : a' = spFr cd clo (k + 1) w.heap.size (fun i => a'.tmps.getD i undef)) (hs : SpAt w bl bd bi st cd day k fr te L v W) : spJ w bl bd bi st cd day clo a' W := ⟨k, fr, te, L, v, _, h, hs⟩
theorem findW_bad {cd day fr : Int} {f : Nat} (h : ¬ lastE fr cd = 0) : findW cd day f fr = ([], false) := by
 cases f with
 | zero => rfl
 | succ f => unfold findW; rw [if_neg h]
theorem findW_stop {cd day fr : Int} {f : Nat} (h : lastE fr cd = 0) (h2 : ¬ (lastF fr cd < day ∧ f ≠ 0)) : findW cd day (f + 1) fr = ([(fr, lastF fr cd)], decide (fr ≤ day) && decide (day ≤ lastF fr cd)) := by
 conv => lhs; unfold findW
 rw [if_pos h, if_neg h2]
theorem findW_go {cd day fr : Int} {f : Nat} (h : lastE fr cd = 0) (h2 : lastF fr cd < day ∧ f ≠ 0) : findW cd day (f + 1) fr = ((fr, lastF fr cd) :: (findW cd day f (lastF fr cd + 1)).1, (findW cd day f (lastF fr cd + 1)).2) := by
 conv => lhs; unfold findW
 rw [if_pos h, if_pos h2]
theorem lastE_ok {fr cd : Int} (h : lastE fr cd = 0) : 1 ≤ cd ∧ cd ≤ 28 ∧ -135140 ≤ fr ∧ fr ≤ 2932896 ∧ lastF fr cd ≤ 2932896 ∧ fr ≤ lastF fr cd := by
 unfold lastE at h
 split at h
 ·cases h
 ·split at h
  ·cases h
  ·split at h
   ·cases h
   ·have := lastF_ge (fr := fr) (cd := cd) (by omega) (by omega) (by omega) (by omega)
    omega
def SpPost (bl bi : Nat) (st cd day : Int) (w : World) (e : Ending) (w' : World) : Prop := ∃ z v, e = .returned (.int .i64 z) ∧ w'.heap[bl]? = some (.cells #[v] 42 (0, 0)) ∧ w'.heap[bi]? = some (.cells #[.bool (findW cd day 300 st).2] 4 (0, 0)) ∧ w'.ownsRow 0 46 2 v (findW cd day 300 st).1.length ((findW cd day 300 st).1.flatMap spc) ∧ (∀ g, v.ownBlock = some g → w.heap.size ≤ g) ∧ Keeps (fun i => i = bl ∨ i = bi) w w'
theorem SpPost.of {w W : World} {bl bd bi : Nat} {st cd day : Int} {L : List (Int × Int)} {v : Value} {b : Bool} (h : FindAt (fun i => i = bl ∨ i = bi ∨ i = w.heap.size) (spW w st) bl bd bi day v L b W) (he : findW cd day 300 st = (L, b)) (z : Int) : SpPost bl bi st cd day w (.returned (.int .i64 z)) W := by
 refine ⟨z, v, rfl, h.l, by rw [he]; exact h.i, by rw [he]; exact h.row, fun g hg => by have := h.fr g hg; simp [spW] at this; omega, (Keeps.alloc w _).trans (h.kp.mono fun i _ e => ?_)⟩
 rcases e with e | e | e
 ·exact .inl (.inl e)
 ·exact .inl (.inr e)
 ·exact .inr (by omega)
set_option maxRecDepth 100000 in
set_option maxHeartbeats 1600000 in
theorem cycSpans_any (st cd day : Int) (bl bd bi : Nat) (w : World) (hl : w.heap[bl]? = some (.cells #[.slice none 0 0] 42 (0, 0))) (hd : w.heap[bd]? = some (.cells #[.int .i64 day] 3 (0, 0))) (hi : w.heap[bi]? = some (.cells #[.bool false] 4 (0, 0))) (hst : -1000000000000 ≤ st ∧ st ≤ 1000000000000) :
  Calls Try.prog 72 #[.int .i64 st, .int .i64 cd, .func (.func 73) #[] #[(.pointer (some ⟨bl, 0, none⟩)), (.pointer (some ⟨bd, 0, none⟩)), (.pointer (some ⟨bi, 0, none⟩))]] w (SpPost bl bi st cd day w) := by
 obtain ⟨st0, st1⟩ := hst
 have ll := lt_of_block hl
 have dl := lt_of_block hd
 have il := lt_of_block hi
 have hstart : SpAt w bl bd bi st cd day 0 st 0 [] (.slice none 0 0) (spW w st) :=
  ⟨by omega, heap_alloc_new w _, ⟨box_alloc hl _, box_alloc hd _, box_alloc hi _, World.ownsRow_nil _ _ _ _, by simp [Value.ownBlock], Keeps.refl _ _⟩, st0, st1, rfl, by simp⟩
 unfold spW at hstart
 obtain ⟨Hl, Hd, Hi, Hstart⟩ := hid4 hl hd hi hstart; clear hstart hi hd hl
 go_enter Try.func72, Try.ntmps72
 go_wp2_with fail
 refine wp_scope_back 0 (spJ w bl bd bi st cd day (.func (.func 73) #[] #[(.pointer (some ⟨bl, 0, none⟩)), (.pointer (some ⟨bd, 0, none⟩)), (.pointer (some ⟨bi, 0, none⟩))])) (fun a' _ => 400 - slotNatS 7 a') rfl ?_ ?_
 ·rintro a' W ⟨k, fr, te, L, v, u, rfl, hs⟩
  unfold spFr
  have hk3 := hs.k3
  have hla := cycLast_any fr cd W ⟨hs.f0, hs.f1⟩
  obtain ⟨F, hF⟩ : ∃ F, lastF fr cd = F := ⟨_, rfl⟩
  obtain ⟨f, hf⟩ : ∃ f, 300 - k = f + 1 := ⟨300 - k - 1, by omega⟩
  have hbig : L.length ≤ 1000000 := by rw [hs.len]; omega
  have heq := hs.eq
  have b0 := cell_of_cells hs.box 0
  have b1 := cell_of_cells hs.box 1
  have bl0 := lt_of_block hs.box
  have hset := fun (W' : World) (hW : Keeps (fun _ => False) W W') (j : Nat) (x : Value) => (hs.fa.keep hW).set (B := w.heap.size) (.inr (.inr rfl)) (by omega) (by omega) (by omega) (by simp [spW]) j x
  have hbx := fun (W' : World) (hW : Keeps (fun _ => False) W W') => box_old hs.box hW (by simp)
  by_cases he : lastE fr cd = 0
  ·obtain ⟨o1, o2, o3, o4, o5, o6⟩ := lastE_ok he
   have hv : lastV fr cd = F := by unfold lastV; rw [if_pos he, hF]
   rw [hv, he] at hla
   rw [hF] at o5 o6
   rw [hf] at heq
   by_cases hgo : F < day ∧ f ≠ 0
   ·rw [findW_go he (by rw [hF]; exact hgo), hF] at heq
    have hc1 : decide (F < day) = true := by simp [hgo.1]
    have hc2 : decide (((k + 1 : Nat) : Int) < 300) = true := by rw [decide_eq_true_iff]; omega
    have hnb : (decide (F < day) && decide (((k + 1 : Nat) : Int) < 300)) = true := by rw [hc1, hc2]; rfl
    have hisb : (decide (fr ≤ day) && decide (day ≤ F)) = false := by rw [show decide (day ≤ F) = false by simp; omega]; simp
    have hf0 := hgo.2
    clear hc1 hc2 hgo
    obtain ⟨Hs, Hla, HF, Hf, Heq, He, Hset, Hbx, Hnb⟩ := hid9 hs hla hF hf heq he hset hbx hnb; clear hnb hbx hset he heq hf hF hla hs; obtain ⟨Hisb, Hv⟩ := hid2 hisb hv; clear hv hisb
    go_wp2_with fail
    refine Hla.out.mono ?_
    rintro e w1 ⟨rfl, hk1⟩
    have hfa := Hset.out w1 hk1 1 (.int .i64 F)
    have hb := (heap_setCell_same _ _ 1 _ _ (Value.int .i64 F) (Hbx.out w1 hk1)).trans rfl
    have b0' := cell_of_cells (Hbx.out w1 hk1) 0
    have b1' := cell_of_cells (Hbx.out w1 hk1) 1
    have bf := free_of_cells (Hbx.out w1 hk1) 1
    have bll := lt_of_block (Hbx.out w1 hk1)
    have hcl := cycFind1_any _ _ bl bd bi day v L false ((k + 1 : Nat) : Int) fr F _ hfa (.inl rfl) (.inr (.inl rfl)) hbig
    rw [Hnb.out, Hisb.out] at hcl
    obtain ⟨Hfa, Hb, Hcl, Hk1⟩ := hid4 hfa hb hcl hk1; clear hk1 hcl hb hfa
    go_wp2_with fail
    refine Hcl.out.mono ?_
    rintro e w2 ⟨rfl, hk2, v2, hfa2⟩
    have hne : ¬ (w.heap.size = bl ∨ w.heap.size = bi ∨ v.ownBlock = some w.heap.size) := by
     rintro (e | e | e)
     ·omega
     ·omega
     ·have := Hs.out.fa.fr _ e; simp [spW] at this; omega
    have hb2 := box_old Hb.out hk2 hne
    have e0 := cell_of_cells hb2 0
    have e1 := cell_of_cells hb2 1
    have ef := free_of_cells hb2 0
    have el := lt_of_block hb2
    have hfa3 := hfa2.set (B := w.heap.size) (.inr (.inr rfl)) (by omega) (by omega) (by omega) (by simp [spW]) 0 (.int .i64 (F + 1))
    have hb3 := (heap_setCell_same _ _ 0 _ _ (Value.int .i64 (F + 1)) hb2).trans rfl
    obtain ⟨Hfa2, Hb2, Hfa3, Hb3, Hk2⟩ := hid5 hfa2 hb2 hfa3 hb3 hk2; clear hk2 hb3 hfa3 hb2 hfa2
    clear b0' b1' bf bll b0 b1
    go_wp2_with fail
    go_step3
    go_wp2
    refine jump_goto ⟨spJ.mk (k + 1) (F + 1) F (L ++ [(fr, F)]) v2 rfl ⟨by have := Hf.out; omega, Hb3.out, Hfa3.out, by omega, by omega, by rw [List.length_append, Hs.out.len]; rfl, ?_⟩, by simp [slotNatS]; omega⟩
    rw [Heq.out, show 300 - (k + 1) = f by have := Hf.out; omega, List.append_assoc]
    rfl
   ·rw [findW_stop he (by rw [hF]; exact hgo), hF] at heq
    have hnb : (decide (F < day) && decide (((k + 1 : Nat) : Int) < 300)) = false := by
     by_cases h1 : F < day
     ·have : f = 0 := by
       rcases Nat.eq_zero_or_pos f with h | h
       ·exact h
       ·exact absurd ⟨h1, by omega⟩ hgo
      rw [show decide (((k + 1 : Nat) : Int) < 300) = false by rw [decide_eq_false_iff_not]; omega]; simp
     ·rw [show decide (F < day) = false by simp [h1]]; rfl
    obtain ⟨r, hr⟩ : ∃ r, (decide (fr ≤ day) && decide (day ≤ F)) = r := ⟨_, rfl⟩
    rw [hr] at heq
    clear hgo
    obtain ⟨Hs, Hla, HF, Hf, Heq, He, Hset, Hbx, Hnb⟩ := hid9 hs hla hF hf heq he hset hbx hnb; clear hnb hbx hset he heq hf hF hla hs; obtain ⟨Hr, Hv⟩ := hid2 hr hv; clear hv hr
    go_wp2_with fail
    refine Hla.out.mono ?_
    rintro e w1 ⟨rfl, hk1⟩
    have hfa := Hset.out w1 hk1 1 (.int .i64 F)
    have b0' := cell_of_cells (Hbx.out w1 hk1) 0
    have b1' := cell_of_cells (Hbx.out w1 hk1) 1
    have bf := free_of_cells (Hbx.out w1 hk1) 1
    have bll := lt_of_block (Hbx.out w1 hk1)
    have hcl := cycFind1_any _ _ bl bd bi day v L false ((k + 1 : Nat) : Int) fr F _ hfa (.inl rfl) (.inr (.inl rfl)) hbig
    rw [Hnb.out, Hr.out] at hcl
    obtain ⟨Hfa, Hcl, Hk1⟩ := hid3 hfa hcl hk1; clear hk1 hcl hfa
    go_wp2_with fail
    refine Hcl.out.mono ?_
    rintro e w2 ⟨rfl, hk2, v2, hfa2⟩
    have hpost := SpPost.of (st := st) (cd := cd) hfa2 Heq.out 0
    have Hpost := Lib.hid hpost; clear hpost
    clear hk2 hfa2
    go_wp2
    refine jump_ret ?_
    go_ret
    exact Hpost.out
  ·have hv : lastV fr cd = 0 := by unfold lastV; rw [if_neg he]
   rw [findW_bad he, List.append_nil] at heq
   obtain ⟨z, hz⟩ : ∃ z, lastE fr cd = z := ⟨_, rfl⟩
   rw [hv, hz] at hla
   rw [hz] at he
   have hzI : (z != 0) = true := by simp [he]
   obtain ⟨Hs, Hla, HF, Hf, Heq, Hset, Hbx, Hv, Hz⟩ := hid9 hs hla hF hf heq hset hbx hv hz; clear hz hv hbx hset heq hf hF hla hs
   go_wp2_with fail
   refine Hla.out.mono ?_
   rintro e w1 ⟨rfl, hk1⟩
   have hfa := Hset.out w1 hk1 1 (.int .i64 0)
   have b0' := cell_of_cells (Hbx.out w1 hk1) 0
   have b1' := cell_of_cells (Hbx.out w1 hk1) 1
   have bf := free_of_cells (Hbx.out w1 hk1) 1
   have bll := lt_of_block (Hbx.out w1 hk1)
   have hpost := SpPost.of (st := st) (cd := cd) hfa Heq.out z
   obtain ⟨Hpost, Hfa, Hk1⟩ := hid3 hpost hfa hk1; clear hk1 hfa hpost
   go_wp2
   refine jump_ret ?_
   go_ret
   exact Hpost.out
 ·intro hfirst
  have Hfirst := Lib.hid hfirst; clear hfirst
  go_wp2
  go_step3
  rename_i hK
  refine hK _ _ ?_
  refine Hfirst.out _ _ ?_
  exact spJ.mk 0 st 0 [] (.slice none 0 0) rfl Hstart.out
def FindPost (st cd day : Int) (w : World) (e : Ending) (w' : World) : Prop := ∃ v, e = .returned (.tuple #[v, .bool (findW cd day 300 st).2]) ∧ w'.ownsRow 0 46 2 v (findW cd day 300 st).1.length ((findW cd day 300 st).1.flatMap spc) ∧ Fresh w w' v
set_option maxRecDepth 100000 in
set_option maxHeartbeats 1600000 in
theorem cycFind_any (st cd day : Int) (w : World) (hst : -1000000000000 ≤ st ∧ st ≤ 1000000000000) : Calls Try.prog 58 #[.int .i64 st, .int .i64 cd, .int .i64 day] w (FindPost st cd day w) := by
 have hsp := cycSpans_any st cd day (w.heap.size + 1) w.heap.size (w.heap.size + 1 + 1) (((w.alloc (.cells #[.int .i64 day] 3)).alloc (.cells #[.slice none 0 0] 42)).alloc (.cells #[.bool false] 4)) (box_alloc (halloc_at2 _ _ (by simp)) _) (box_alloc (box_alloc (heap_alloc_new w _) _) _) (halloc_at2 _ _ (by simp)) hst
 have Hsp := Lib.hid hsp; clear hsp
 go_enter Try.func58, Try.ntmps58
 go_wp2_with fail
 refine Hsp.out.mono ?_
 rintro e w1 ⟨z, v, rfl, hl, hi, hrow, hfr, hk⟩
 have hkw : Keeps (fun _ => False) w w1 := (((Keeps.alloc w _).nt (Keeps.alloc _ _)).nt (Keeps.alloc _ _)).trans (hk.mono fun i _ e => .inr (by rcases e with e | e <;> omega))
 obtain ⟨r, hr⟩ : ∃ r, (findW cd day 300 st).2 = r := ⟨_, rfl⟩
 rw [hr] at hi
 have hpost : FindPost st cd day w (.returned (.tuple #[v, .bool r])) w1.drew := ⟨v, by rw [hr], hrow.of_keeps (Keeps.drew _), hkw.nt (Keeps.drew _), fun g hg => by have := hfr g hg; simp at this; omega⟩
 have c0 := cell_of_cells hl 0
 have c1 := cell_of_cells hi 0
 have cl := lt_of_block hl
 have ci := lt_of_block hi
 obtain ⟨ad, cap, rfl, _, _⟩ := ownsRow_shape hrow
 obtain ⟨q, hq⟩ : ∃ q, (findW cd day 300 st).1.length = q := ⟨_, rfl⟩
 rw [hq] at hpost c0
 obtain ⟨Hl, Hi, Hrow, Hfr, Hk, Hkw, Hpost, Hr, Hq⟩ := hid9 hl hi hrow hfr hk hkw hpost hr hq; clear hq hr hpost hkw hk hfr hrow hi hl
 go_wp2_with fail
 go_region
 go_wp2
 exact bodyPost_ret (v := .tuple #[.slice ad q cap, .bool r]) (by simp [results, Try.results58, go_sem]) rfl Hpost.out
def ofE (st cd day : Int) : Int := if lastE st cd = 0 then (if (findW cd day 300 st).2 = true then 0 else 10) else lastE st cd
def ofV (st cd day : Int) : Int := if ofE st cd day = 0 then ((findW cd day 300 st).1.length : Int) else 0
def allL (st cd day : Int) : List (Int × Int) := if (findW cd day 300 st).2 = true then (findW cd day 300 st).1 else []
set_option maxRecDepth 100000 in
set_option maxHeartbeats 1600000 in
theorem cycOf_any (st cd day : Int) (w : World) (hst : -1000000000000 ≤ st ∧ st ≤ 1000000000000) : Calls Try.prog 55 #[.int .i64 st, .int .i64 cd, .int .i64 day] w fun e w' => e = .returned (.tuple #[.int .i64 (ofV st cd day), .int .i64 (ofE st cd day)]) ∧ Keeps (fun _ => False) w w' := by
 have hla := cycLast_any st cd w hst
 have hfi := fun W => cycFind_any st cd day W hst
 obtain ⟨z, hz⟩ : ∃ z, lastE st cd = z := ⟨_, rfl⟩
 obtain ⟨x, hx⟩ : ∃ x, lastV st cd = x := ⟨_, rfl⟩
 obtain ⟨E, hE⟩ : ∃ z, ofE st cd day = z := ⟨_, rfl⟩
 obtain ⟨V, hV⟩ : ∃ z, ofV st cd day = z := ⟨_, rfl⟩
 have hE' := hE
 have hV' := hV
 unfold ofE at hE'
 unfold ofV at hV'
 rw [hz] at hE'
 rw [hE] at hV'
 rw [hz, hx] at hla
 rw [hE, hV]
 unfold FindPost at hfi
 by_cases h0 : z = 0
 ·subst h0
  rw [if_pos rfl] at hE'
  rcases hb : (findW cd day 300 st).2 with _ | _
  ·rw [hb, if_neg (by decide)] at hE'
   subst hE'
   rw [if_neg (by decide)] at hV'
   subst hV'
   rw [hb] at hfi
   obtain ⟨Hla, Hfi, Hz, Hx, HE, HV, Hb⟩ := hid7 hla hfi hz hx hE hV hb; clear hb hV hE hx hz hfi hla
   go_enter Try.func55, Try.ntmps55
   go_wp2_with fail
   refine Hla.out.mono ?_
   rintro e w1 ⟨rfl, hk1⟩
   have Hk1 := Lib.hid hk1; clear hk1
   go_wp2_with fail
   refine (Hfi.out _).mono ?_
   rintro e w2 ⟨v, rfl, hr, hf⟩
   have Hk2 := Lib.hid (Hk1.out.nt hf.1)
   obtain ⟨ad, cap, rfl, _, _⟩ := ownsRow_shape hr
   clear hr hf
   go_wp2
   exact bodyPost_ret (v := .tuple #[.int .i64 0, .int .i64 10]) (by simp [results, Try.results55, go_sem]) rfl ⟨rfl, Hk2.out⟩
  ·rw [hb, if_pos rfl] at hE'
   subst hE'
   rw [if_pos rfl] at hV'
   obtain ⟨m, hm⟩ : ∃ m, (findW cd day 300 st).1.length = m := ⟨_, rfl⟩
   rw [hm] at hV' hfi
   subst hV'
   rw [hb] at hfi
   obtain ⟨Hla, Hfi, Hz, Hx, HE, HV, Hb, Hm⟩ := hid8 hla hfi hz hx hE hV hb hm; clear hm hb hV hE hx hz hfi hla
   go_enter Try.func55, Try.ntmps55
   go_wp2_with fail
   refine Hla.out.mono ?_
   rintro e w1 ⟨rfl, hk1⟩
   have Hk1 := Lib.hid hk1; clear hk1
   go_wp2_with fail
   refine (Hfi.out _).mono ?_
   rintro e w2 ⟨v, rfl, hr, hf⟩
   have Hk2 := Lib.hid (Hk1.out.nt hf.1)
   obtain ⟨ad, cap, rfl, _, _⟩ := ownsRow_shape hr
   clear hr hf
   go_wp2
   exact bodyPost_ret (v := .tuple #[.int .i64 (m : Int), .int .i64 0]) (by simp [results, Try.results55, go_sem]) rfl ⟨rfl, Hk2.out⟩
 ·rw [if_neg h0] at hE'
  subst hE'
  rw [if_neg h0] at hV'
  subst hV'
  have hzI : (z != 0) = true := by simp [h0]
  obtain ⟨Hla, Hfi, Hz, Hx, HE, HV⟩ := hid6 hla hfi hz hx hE hV; clear hV hE hx hz hfi hla
  go_enter Try.func55, Try.ntmps55
  go_wp2_with fail
  refine Hla.out.mono ?_
  rintro e w1 ⟨rfl, hk1⟩
  have Hk1 := Lib.hid hk1; clear hk1
  go_wp2
  exact bodyPost_ret (v := .tuple #[.int .i64 0, .int .i64 z]) (by simp [results, Try.results55, go_sem]) rfl ⟨rfl, Hk1.out⟩
set_option maxRecDepth 100000 in
set_option maxHeartbeats 1600000 in
theorem cycAll_any (st cd day : Int) (w : World) (hst : -1000000000000 ≤ st ∧ st ≤ 1000000000000) : Calls Try.prog 41 #[.int .i64 st, .int .i64 cd, .int .i64 day] w fun e w' => ∃ v, e = .returned v ∧ w'.ownsRow 0 46 2 v (allL st cd day).length ((allL st cd day).flatMap spc) ∧ Fresh w w' v := by
 have hfi := cycFind_any st cd day w hst
 unfold FindPost at hfi
 obtain ⟨A, hA⟩ : ∃ A, allL st cd day = A := ⟨_, rfl⟩
 have hA' := hA
 unfold allL at hA'
 rw [hA]
 rcases hb : (findW cd day 300 st).2 with _ | _
 ·rw [hb, if_neg (by decide)] at hA'
  subst hA'
  rw [hb] at hfi
  obtain ⟨Hfi, HA, Hb⟩ := hid3 hfi hA hb; clear hb hA hfi
  go_enter Try.func41, Try.ntmps41
  go_wp2_with fail
  refine Hfi.out.mono ?_
  rintro e w2 ⟨v, rfl, hr, hf⟩
  have Hk2 := Lib.hid hf.1
  obtain ⟨ad, cap, rfl, _, _⟩ := ownsRow_shape hr
  clear hr hf
  go_wp2
  go_ret
  exact ⟨_, rfl, World.ownsRow_nil _ _ _ _, Hk2.out, by simp [Value.ownBlock]⟩
 ·rw [hb, if_pos rfl] at hA'
  rw [hA', hb] at hfi
  obtain ⟨Hfi, HA, Hb, HA'⟩ := hid4 hfi hA hb hA'; clear hA' hb hA hfi
  go_enter Try.func41, Try.ntmps41
  go_wp2_with fail
  refine Hfi.out.mono ?_
  rintro e w2 ⟨v, rfl, hr, hf⟩
  have Hr2 := Lib.hid hr
  have Hf2 := Lib.hid hf
  obtain ⟨ad, cap, rfl, _, _⟩ := ownsRow_shape hr
  clear hr hf
  go_wp2
  go_ret
  exact ⟨_, rfl, Hr2.out, Hf2.out⟩
end Go.Proofs.Ythcmpcekmkioaaa
namespace Go.Proofs.Ythcmpcekmkioaaa
open Go.RowKit
def lateQ (td : Int) (x : Ev) : Bool := decide (td < x.day)
set_option maxRecDepth 100000 in
set_option maxHeartbeats 400000 in
theorem repRight1_any (td : Int) (B : Nat) (x : Ev) (w : World) (hB : w.cell? ⟨B, 0, none⟩ = some (.int .i64 td)) : Calls Try.prog 57 #[x.agg, (.pointer (some ⟨B, 0, none⟩))] w fun e w' => e = .returned (.bool (lateQ td x)) ∧ Keeps (fun _ => False) w w' := by
 obtain ⟨ki, da, tr, am, re⟩ := x
 simp only [Ev.agg]
 have hk := Keeps.alloc (S := fun _ => False) w (.cells #[.int .i64 ki, .int .i64 da, .int .i64 tr, .int .i64 am, .int .i64 re] 54)
 have hl := cell_lt hB
 obtain ⟨z, hz⟩ : ∃ z, lateQ td ⟨ki, da, tr, am, re⟩ = z := ⟨_, rfl⟩
 rw [hz]
 have hz' : decide (td < da) = z := hz
 obtain ⟨Hk, Hz⟩ := hid2 hk hz; clear hz hk
 go_enter Try.func57, Try.ntmps57
 go_wp2
 go_ret
 exact ⟨rfl, Hk.out⟩
set_option maxRecDepth 100000 in
set_option maxHeartbeats 800000 in
theorem indexLate (B : Nat) (q : Ev → Bool) (ad : Option Addr) (cap : Nat) (L : List Ev) (w : World) (hr : Reads w 5 (.slice ad L.length cap) L.length (L.flatMap Ev.cells)) (hl : L.length ≤ 1000000)
  (hq : ∀ W (x : Ev), Keeps (fun _ => False) w W → Calls Try.prog 57 #[x.agg, (.pointer (some ⟨B, 0, none⟩))] W fun e w' => e = .returned (.bool (q x)) ∧ Keeps (fun _ => False) W w') :
  Calls Try.prog 71 #[.slice ad L.length cap, .func (.func 57) #[] #[(.pointer (some ⟨B, 0, none⟩))]] w fun e w' => e = .returned (.int .i64 (retI (L.findIdx? q))) ∧ Keeps (fun _ => False) w w' := by
 obtain ⟨n, hn⟩ : ∃ n, L.length = n := ⟨_, rfl⟩
 obtain ⟨r, hrr⟩ : ∃ r, retI (L.findIdx? q) = r := ⟨_, rfl⟩
 rw [hrr]
 rw [hn] at hr hl ⊢
 obtain ⟨Hr, Hq, Hrr, Hn⟩ := hid4 hr hq hrr hn; clear hn hrr hq hr
 go_enter Try.func71, Try.ntmps71
 go_wp2_with fail
 go_loopw [8] (fun c wx => ∃ j : Nat, j ≤ n ∧ c = .int .i64 (j : Nat) ∧ (∀ i y, i < j → L[i]? = some y → q y = false) ∧ Keeps (fun _ => False) w wx) (fun c _ => n - (intOf c).toNat)
 case atStart => exact ⟨0, Nat.zero_le _, rfl, fun i y h => absurd h (Nat.not_lt_zero _), Keeps.refl _ _⟩
 case round =>
  obtain ⟨j, hj, rfl, hno, hkx⟩ := hrel
  by_cases hjl : j < n
  ·obtain ⟨x, hx⟩ := get_some (L := L) (k := j) (by rw [Hn.out]; exact hjl)
   have hjI : (j : Int) < (n : Int) := by omega
   obtain ⟨g, o, c, he, hc⟩ := (Hr.out.keeps hkx (by simp)).elem Ev.cells_length hx (by decide)
   simp only [Value.slice.injEq, true_and] at he
   obtain ⟨rfl, rfl⟩ := he
   have hcall := Hq.out wr x hkx
   obtain ⟨qx, hqx⟩ : ∃ b, q x = b := ⟨_, rfl⟩
   rw [hqx] at hcall
   obtain ⟨ki, da, tr, am, re⟩ := x
   have x0 : wr.cell? ⟨g, o + j * 5, none⟩ = some (.int .i64 ki) := hc 0 (by decide)
   have x1 : wr.cell? ⟨g, o + j * 5 + 1, none⟩ = some (.int .i64 da) := hc 1 (by decide)
   have x2 : wr.cell? ⟨g, o + j * 5 + 2, none⟩ = some (.int .i64 tr) := hc 2 (by decide)
   have x3 : wr.cell? ⟨g, o + j * 5 + 3, none⟩ = some (.int .i64 am) := hc 3 (by decide)
   have x4 : wr.cell? ⟨g, o + j * 5 + 4, none⟩ = some (.int .i64 re) := hc 4 (by decide)
   simp only [Ev.agg] at hcall
   clear hc
   rcases qx with _ | _
   ·have hno' : ∀ i y, i < j + 1 → L[i]? = some y → q y = false := fun i y hi hy => by
     rcases Nat.lt_or_ge i j with h | h
     ·exact hno i y h hy
     ·obtain rfl : i = j := by omega
      rw [hx] at hy; cases hy; exact hqx
    obtain ⟨Hno, Hno', Hx, Hqx, Hkx, Hcall⟩ := hid6 hno hno' hx hqx hkx hcall; clear hcall hkx hqx hx hno' hno
    go_wp2_with (go_at_call 57; ((with_reducible refine Hcall.out.mono ?_); rintro e w1 ⟨rfl, hk1⟩; have Hk1 := Lib.hid hk1; clear hk1))
    go_roundw
    case rel => exact ⟨j + 1, by omega, by go_num, Hno'.out, Keeps.nt Hkx.out Hk1.out⟩
    case measure => simp [intOf]; omega
   ·have hf := find_snoc hx hno hqx
    obtain ⟨Hno, Hx, Hqx, Hkx, Hcall, Hf⟩ := hid6 hno hx hqx hkx hcall hf; clear hf hcall hkx hqx hx hno
    go_wp2_with (go_at_call 57; ((with_reducible refine Hcall.out.mono ?_); rintro e w1 ⟨rfl, hk1⟩; have Hk1 := Lib.hid hk1; clear hk1))
    go_ret
    exact ⟨by rw [← Hrr.out, Hf.out]; rfl, Keeps.nt Hkx.out Hk1.out⟩
  ·obtain rfl : j = n := by omega
   have hf := find_no (q := q) (L := L) (fun i y hi hy => hno i y (by rw [Hn.out] at hi; exact hi) hy)
   obtain ⟨Hno, Hkx, Hf⟩ := hid3 hno hkx hf; clear hf hkx hno
   go_wp2_with fail
   go_ret
   exact ⟨by rw [← Hrr.out, Hf.out]; rfl, Hkx.out⟩
theorem find_any {q : Ev → Bool} {L : List Ev} : decide ((0 : Int) ≤ retI (L.findIdx? q)) = L.any q := by
 rcases h : L.findIdx? q with _ | k
 ·have h1 := List.findIdx?_eq_none_iff.1 h
  have h2 : L.any q = false := by
   rw [Bool.eq_false_iff]
   intro hh
   obtain ⟨x, hx, h3⟩ := List.any_eq_true.1 hh
   have := h1 x hx
   rw [this] at h3; cases h3
  rw [h2]; rfl
 ·obtain ⟨h1, h2, _⟩ := List.findIdx?_eq_some_iff_getElem.1 h
  rw [List.any_eq_true.2 ⟨_, List.getElem_mem h1, h2⟩]
  simp [retI]
set_option maxRecDepth 100000 in
set_option maxHeartbeats 400000 in
theorem containsLate_any (td : Int) (B : Nat) (ad : Option Addr) (cap n : Nat) (L : List Ev) (w : World) (hB : w.cell? ⟨B, 0, none⟩ = some (.int .i64 td)) (hr : Reads w 5 (.slice ad n cap) n (L.flatMap Ev.cells)) (hN : L.length = n) (hl : n ≤ 1000000) :
  Calls Try.prog 56 #[.slice ad n cap, .func (.func 57) #[] #[(.pointer (some ⟨B, 0, none⟩))]] w fun e w' => e = .returned (.bool (L.any (lateQ td))) ∧ Keeps (fun _ => False) w w' := by
 subst hN
 have hi := indexLate B (lateQ td) ad cap L w hr hl (fun W x hW => repRight1_any td B x W ((hW.cell (cell_lt hB) (by simp)).trans hB))
 have hf := find_any (q := lateQ td) (L := L)
 obtain ⟨r, hrr⟩ : ∃ r, retI (L.findIdx? (lateQ td)) = r := ⟨_, rfl⟩
 obtain ⟨z, hz⟩ : ∃ z, L.any (lateQ td) = z := ⟨_, rfl⟩
 rw [hrr] at hi hf
 rw [hz] at hf ⊢
 obtain ⟨Hr, Hi, Hrr, Hz⟩ := hid4 hr hi hrr hz; clear hz hrr hi hr
 go_enter Try.func56, Try.ntmps56
 go_wp2_with fail
 refine Hi.out.mono ?_
 rintro e w1 ⟨rfl, hk1⟩
 have Hk1 := Lib.hid hk1; clear hk1
 go_wp2
 go_ret
 exact ⟨rfl, Hk1.out⟩
def repErr (t : Tm) (L : List Ev) (td : Int) : Int := if t.err = 0 then (if evsErr t L = 0 then (if 2000 < L.length then 14 else if td < t.start ∨ 2932896 < td then 10 else if ¬ ofE t.start t.cyc td = 0 then 10 else if L.any (lateQ td) = true then 10 else 0) else evsErr t L) else 6
def tdS (b : Nat) (t : Tm) (v : Value) (td : Int) (W : World) : Prop := tbS b t v W ∧ W.cell? ⟨b + 1, 0, none⟩ = some (.int .i64 td)
set_option maxRecDepth 100000 in
set_option maxHeartbeats 3200000 in
theorem repRight_any (t : Tm) (adt : Option Addr) (ct nt : Nat) (L : List Ev) (ad : Option Addr) (cap n : Nat) (td : Int) (w : World) (hnt : t.trs.length = nt) (htr : Reads w 2 (.slice adt nt ct) nt (t.trs.flatMap Tn.cells)) (hn : L.length = n) (hr : Reads w 5 (.slice ad n cap) n (L.flatMap Ev.cells)) (hl : n ≤ 1000000) (htl : nt ≤ 1000000) :
  Calls Try.prog 40 #[.agg #[.int .i64 t.limit, .slice adt nt ct, .int .i64 t.cyc, .int .i64 t.due, .int .i64 t.minFixed, .int .i64 t.minPart, .int .i64 t.start], .slice ad n cap, .int .i64 td] w fun e w' => e = .returned (.int .i64 (repErr t L td)) ∧ Keeps (fun _ => False) w w' := by
 have htm := fun W (hW : Keeps (fun _ => False) w W) => tmRight_any t adt ct W (by rw [hnt]; exact htr.keeps hW (by simp)) (by omega)
 have hev := fun x W (hW : Keeps (fun _ => False) w W) => evRight_any t x adt ct W (by rw [hnt]; exact htr.keeps hW (by simp)) (by omega)
 have htb : ∀ W, Keeps (fun _ => False) ((w.alloc (.cells #[.int .i64 t.limit, .slice adt nt ct, .int .i64 t.cyc, .int .i64 t.due, .int .i64 t.minFixed, .int .i64 t.minPart, .int .i64 t.start] 24)).alloc (.cells #[.int .i64 td] 3)) W → tdS w.heap.size t (.slice adt nt ct) td W := fun W hW => ⟨tbS.of (box_old (box_alloc (heap_alloc_new w _) _) hW (by simp)), cell_of_cells (box_old (halloc_at2 _ _ (by simp)) hW (by simp)) 0⟩
 have hlate := fun (W : World) (hB : W.cell? ⟨w.heap.size + 1, 0, none⟩ = some (.int .i64 td)) (hW : Keeps (fun _ => False) w W) => containsLate_any td (w.heap.size + 1) ad cap n L W hB (hr.keeps hW (by simp)) hn hl
 obtain ⟨z, hz⟩ : ∃ z, repErr t L td = z := ⟨_, rfl⟩
 have hz' := hz
 unfold repErr at hz'
 obtain ⟨y, hy⟩ : ∃ y, t.err = y := ⟨_, rfl⟩
 rw [hz]
 rw [hnt] at htm hev
 rw [hy] at htm hz'
 rw [hn] at hz'
 simp only [Tm.val] at htm hev ⊢
 by_cases hy0 : y = 0
 ·subst hy0
  rw [if_pos rfl] at hz'
  have hnum := tm_nums hy
  obtain ⟨_, _, _, _, _, _, ⟨st0, st1⟩⟩ := hnum
  have hof := fun W => cycOf_any t.start t.cyc td W (by omega)
  obtain ⟨Htm, Hev, Htb, Htr, Hr, Hz, Hz', Hy, Hnt⟩ := hid9 htm hev htb htr hr hz hz' hy hnt; clear hnt hy hz' hz hr htr htb hev htm; obtain ⟨Hn, Hlate, Hof⟩ := hid3 hn hlate hof; clear hof hlate hn
  go_enter Try.func40, Try.ntmps40
  go_wp2_with fail
  refine (Htm.out _ ((Keeps.alloc _ _).trans_alloc)).mono ?_
  rintro e w1 ⟨rfl, hk1⟩
  have Hk1 := Lib.hid hk1; clear hk1
  obtain ⟨tb, d0⟩ := Htb.out _ Hk1.out
  obtain ⟨b0, b1, b2, b3, b4, b5, b6⟩ := tb
  have bbl := cell_lt b0
  have dl := cell_lt d0
  go_wp2
  go_loopw [20] (fun x wx => ∃ i : Nat, x = .int .i64 (i : Nat) ∧ i ≤ n ∧ (∀ j y, j < i → L[j]? = some y → evErr t y = 0) ∧ Keeps (fun _ => False) w1 wx) (fun x _ => n - (intOf x).toNat)
  case atStart => exact ⟨0, rfl, Nat.zero_le _, fun j y h => absurd h (Nat.not_lt_zero _), Keeps.refl _ _⟩
  case round =>
   obtain ⟨i, rfl, hin, hall, hk⟩ := hrel
   obtain ⟨wq, hwq⟩ : ∃ x, x = wr := ⟨_, rfl⟩
   subst hwq
   have hkw := ((Keeps.alloc (S := fun _ => False) w (.cells #[.int .i64 t.limit, .slice adt nt ct, .int .i64 t.cyc, .int .i64 t.due, .int .i64 t.minFixed, .int .i64 t.minPart, .int .i64 t.start] 24)).trans_alloc (o := .cells #[.int .i64 td] 3)).nt (Hk1.out.nt hk)
   clear b0 b1 b2 b3 b4 b5 b6 bbl d0 dl
   obtain ⟨tb, d0⟩ := Htb.out _ (Hk1.out.nt hk)
   obtain ⟨b0, b1, b2, b3, b4, b5, b6⟩ := tb
   have bbl := cell_lt b0
   have dl := cell_lt d0
   by_cases hlt : i < n
   ·have hltI : (i : Int) < (n : Int) := by omega
    obtain ⟨x, hx⟩ := get_some (L := L) (k := i) (by rw [Hn.out]; exact hlt)
    obtain ⟨g, o, c', he, hc⟩ := (Hr.out.keeps hkw (by simp)).elem Ev.cells_length hx (by decide)
    simp only [Value.slice.injEq, true_and] at he
    obtain ⟨rfl, rfl⟩ := he
    obtain ⟨q, hq⟩ : ∃ q, evErr t x = q := ⟨_, rfl⟩
    have hcall := Hev.out x
    rw [hq] at hcall
    obtain ⟨xk, xd, xt, xa, xf⟩ := x
    simp only [Ev.agg] at hcall
    have x0 : wq.cell? ⟨g, o + i * 5, none⟩ = some (.int .i64 xk) := hc 0 (by decide)
    have x1 : wq.cell? ⟨g, o + i * 5 + 1, none⟩ = some (.int .i64 xd) := hc 1 (by decide)
    have x2 : wq.cell? ⟨g, o + i * 5 + 2, none⟩ = some (.int .i64 xt) := hc 2 (by decide)
    have x3 : wq.cell? ⟨g, o + i * 5 + 3, none⟩ = some (.int .i64 xa) := hc 3 (by decide)
    have x4 : wq.cell? ⟨g, o + i * 5 + 4, none⟩ = some (.int .i64 xf) := hc 4 (by decide)
    have hgl := cell_lt x0
    clear hc
    by_cases hq0 : q = 0
    ·subst hq0
     have hall2 : ∀ j y, j < i + 1 → L[j]? = some y → evErr t y = 0 := fun j y hj hy => by
      rcases Nat.lt_or_ge j i with h | h
      ·exact hall j y h hy
      ·obtain rfl : j = i := by omega
       rw [hx] at hy; cases hy; exact hq
     obtain ⟨Hall, Hall2, Hk, Hkw, Hx, Hq, Hcall⟩ := hid7 hall hall2 hk hkw hx hq hcall; clear hcall hq hx hkw hk hall2 hall
     go_wp2_with fail
     refine (Hcall.out _ (Hkw.out.nt (Keeps.alloc _ _))).mono ?_
     rintro e w2 ⟨rfl, hk2⟩
     have Hk2 := Lib.hid (Hk.out.nt ((Keeps.alloc _ _).nt hk2)); clear hk2
     go_wp2
     go_roundw
     case rel => exact ⟨i + 1, by go_num, by omega, Hall2.out, Hk2.out⟩
     case measure => simp [intOf]; omega
    ·have he := evsErr_at hall hx (by rw [hq]; exact hq0)
     have hqI : (q != 0) = true := by simp [hq0]
     rw [hq] at he
     obtain ⟨Hall, Hk, Hkw, Hx, Hq, Hcall, He⟩ := hid7 hall hk hkw hx hq hcall he; clear he hcall hq hx hkw hk hall
     go_wp2_with fail
     refine (Hcall.out _ (Hkw.out.nt (Keeps.alloc _ _))).mono ?_
     rintro e w2 ⟨rfl, hk2⟩
     have Hk2 := Lib.hid (Hkw.out.nt ((Keeps.alloc _ _).nt hk2)); clear hk2
     go_wp2
     go_ret
     exact ⟨by have h := Hz'.out; rw [He.out, if_neg hq0] at h; subst h; rfl, Hk2.out⟩
   ·obtain rfl : n = i := by omega
    have he := evsErr_all (t := t) (L := L) fun x hx => by
     obtain ⟨j, hj⟩ := List.getElem?_of_mem hx
     exact hall j x (by rw [← Hn.out]; exact lt_of_get hj) hj
    have h := Hz'.out
    rw [he, if_pos rfl] at h
    by_cases h1 : 2000 < n
    ·have h1I : decide ((2000 : Int) < (n : Int)) = true := by rw [decide_eq_true_iff]; omega
     rw [if_pos h1] at h
     subst h
     obtain ⟨Hall, Hk, Hkw, He⟩ := hid4 hall hk hkw he; clear he hkw hk hall
     go_wp2
     go_ret
     exact ⟨rfl, Hkw.out⟩
    have h1I : decide ((2000 : Int) < (n : Int)) = false := by rw [decide_eq_false_iff_not]; omega
    rw [if_neg h1] at h
    by_cases h2 : td < t.start
    ·have h2I : decide (td < t.start) = true := by simp [h2]
     rw [if_pos (.inl h2)] at h
     subst h
     obtain ⟨Hall, Hk, Hkw, He⟩ := hid4 hall hk hkw he; clear he hkw hk hall
     go_wp2
     go_ret
     exact ⟨rfl, Hkw.out⟩
    have h2I : decide (td < t.start) = false := by simp [h2]
    by_cases h3 : 2932896 < td
    ·have h3I : decide (2932896 < td) = true := by simp [h3]
     rw [if_pos (.inr h3)] at h
     subst h
     obtain ⟨Hall, Hk, Hkw, He⟩ := hid4 hall hk hkw he; clear he hkw hk hall
     go_wp2
     go_ret
     exact ⟨rfl, Hkw.out⟩
    have h3I : decide (2932896 < td) = false := by simp [h3]
    rw [if_neg (by omega)] at h
    obtain ⟨oE, hoE⟩ : ∃ oE, ofE t.start t.cyc td = oE := ⟨_, rfl⟩
    obtain ⟨oV, hoV⟩ : ∃ oV, ofV t.start t.cyc td = oV := ⟨_, rfl⟩
    have hof2 := Hof.out
    rw [hoE, hoV] at hof2
    rw [hoE] at h
    by_cases h4 : oE = 0
    ·subst h4
     rw [if_neg (by simp)] at h
     rcases h5 : L.any (lateQ td) with _ | _
     ·rw [h5, if_neg (by decide)] at h
      subst h
      have hla := Hlate.out
      rw [h5] at hla
      obtain ⟨Hall, Hk, Hkw, He, HoE, HoV, Hof2, H5, Hla⟩ := hid9 hall hk hkw he hoE hoV hof2 h5 hla; clear hla h5 hof2 hoV hoE he hkw hk hall
      go_wp2_with fail
      refine (Hof2.out _).mono ?_
      rintro e w3 ⟨rfl, hk3⟩
      have hkw3 := Hkw.out.nt hk3
      have htd3 := Htb.out _ ((Hk1.out.nt Hk.out).nt hk3)
      clear b0 b1 b2 b3 b4 b5 b6 bbl d0 dl
      obtain ⟨tb, d0⟩ := htd3
      obtain ⟨b0, b1, b2, b3, b4, b5, b6⟩ := tb
      have bbl := cell_lt b0
      have dl := cell_lt d0
      obtain ⟨Hk3, Hkw3⟩ := hid2 hk3 hkw3; clear hkw3 hk3
      go_wp2_with fail
      refine (Hla.out _ d0 Hkw3.out).mono ?_
      rintro e w4 ⟨rfl, hk4⟩
      have Hk4 := Lib.hid (Hkw3.out.nt hk4); clear hk4
      go_wp2
      go_ret
      exact ⟨rfl, Hk4.out⟩
     ·rw [h5, if_pos rfl] at h
      subst h
      have hla := Hlate.out
      rw [h5] at hla
      obtain ⟨Hall, Hk, Hkw, He, HoE, HoV, Hof2, H5, Hla⟩ := hid9 hall hk hkw he hoE hoV hof2 h5 hla; clear hla h5 hof2 hoV hoE he hkw hk hall
      go_wp2_with fail
      refine (Hof2.out _).mono ?_
      rintro e w3 ⟨rfl, hk3⟩
      have hkw3 := Hkw.out.nt hk3
      have htd3 := Htb.out _ ((Hk1.out.nt Hk.out).nt hk3)
      clear b0 b1 b2 b3 b4 b5 b6 bbl d0 dl
      obtain ⟨tb, d0⟩ := htd3
      obtain ⟨b0, b1, b2, b3, b4, b5, b6⟩ := tb
      have bbl := cell_lt b0
      have dl := cell_lt d0
      obtain ⟨Hk3, Hkw3⟩ := hid2 hk3 hkw3; clear hkw3 hk3
      go_wp2_with fail
      refine (Hla.out _ d0 Hkw3.out).mono ?_
      rintro e w4 ⟨rfl, hk4⟩
      have Hk4 := Lib.hid (Hkw3.out.nt hk4); clear hk4
      go_wp2
      go_ret
      exact ⟨rfl, Hk4.out⟩
    ·have h4I : (oE != 0) = true := by simp [h4]
     rw [if_pos h4] at h
     subst h
     obtain ⟨Hall, Hk, Hkw, He, HoE, HoV, Hof2⟩ := hid7 hall hk hkw he hoE hoV hof2; clear hof2 hoV hoE he hkw hk hall
     go_wp2_with fail
     refine (Hof2.out _).mono ?_
     rintro e w3 ⟨rfl, hk3⟩
     have Hk3 := Lib.hid (Hkw.out.nt hk3); clear hk3
     go_wp2
     go_ret
     exact ⟨rfl, Hk3.out⟩
 ·rw [if_neg hy0] at hz'
  have hy6 := Tm.err_or t
  rw [hy] at hy6
  obtain rfl : y = 6 := hy6.resolve_left hy0
  subst hz'
  obtain ⟨Htm, Hev, Htb, Htr, Hr, Hz, Hy, Hnt, Hn⟩ := hid9 htm hev htb htr hr hz hy hnt hn; clear hn hnt hy hz hr htr htb hev htm; have Hlate := Lib.hid hlate; clear hlate
  go_enter Try.func40, Try.ntmps40
  go_wp2_with fail
  refine (Htm.out _ ((Keeps.alloc _ _).trans_alloc)).mono ?_
  rintro e w1 ⟨rfl, hk1⟩
  have Hk1 := Lib.hid (((Keeps.alloc (S := fun _ => False) w _).trans_alloc).nt hk1); clear hk1
  go_wp2
  go_ret
  exact ⟨rfl, Hk1.out⟩
end Go.Proofs.Ythcmpcekmkioaaa
